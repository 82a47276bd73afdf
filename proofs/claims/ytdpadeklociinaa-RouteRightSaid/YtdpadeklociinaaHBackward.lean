import Derived.Test.YtdpadeklociinaaHForward
import Derived.Test.YtdpadeklociinaaHBwd
set_option linter.unusedVariables false
namespace Go.Proofs.Ytdpadeklociinaa.PA
open Go.RowKit Go.Maps Go.Proofs.YtdpadeklociinaaW.PrintWords Go.Proofs.YtdpadeklociinaaW.PrintLast Go.Proofs.YtdpadeklociinaaW.PrintMore Go.Proofs.Ytdpadeklociinaa

def GB (v : Int) : Prop := v ≤ 0 ∧ -1051898399 ≤ v
theorem encN_inj (a b : Option Int) (ha : ∀ v, a = some v → GB v) (hb : ∀ v, b = some v → GB v) (h : Net.encN a = Net.encN b) : a = b := by
  cases a with
  | none => cases b with
    | none => rfl
    | some y => have := hb y rfl; unfold GB at this; simp only [Net.encN] at h; omega
  | some x => cases b with
    | none => have := ha x rfl; unfold GB at this; simp only [Net.encN] at h; omega
    | some y => simp only [Net.encN] at h; congr 1; omega
theorem last_bounds {l : Net.Leg} {b d : Int} (h : Net.last l b = some d) : 0 ≤ d - l.cut ∧ d ≤ 1051898399 ∧ 0 ≤ l.cut := by
  have h1 := (Net.last_some h).1
  have h2 := h1.bounds
  have h3 := (Net.Leg.right_iff _).1 h1.right
  omega
theorem bwdRow_eq {pl : List Int} {x : S23} {t : Int} {L N : Net.Row} (hnd : pl.Nodup) (h50 : pl.length ≤ 50) (h1 : x.f1 ∈ pl) (h2 : x.f2 ∈ pl) (hL : RowOk GB pl L) (hN : RowOk GB pl N) :
    bwdRow x t (posOf pl x.f1).toNat (posOf pl x.f2).toNat (rowOf Net.encN pl L) (rowOf Net.encN pl N) = rowOf Net.encN pl (Net.relax1 L N (Net.bedge (-t + 86400) (toLeg x))) := by
  unfold bwdRow
  rw [rowOf_at h1 h50, rowOf_at h2 h50]
  unfold Net.relax1
  rw [show (Net.bedge (-t + 86400) (toLeg x)).src = x.f2 from rfl, show (Net.bedge (-t + 86400) (toLeg x)).dst = x.f1 from rfl]
  cases hl : L x.f2 with
  | none => rw [show Net.encN none = -1 from rfl, if_pos (by omega), Option.bind_none]
  | some v =>
    have hv := hL.good _ _ hl
    unfold GB at hv
    rw [show Net.encN (some v) = -v from rfl, if_neg (by omega), Option.bind_some]
    unfold Net.bedge
    dsimp only
    cases hn : Net.last (toLeg x) (-v) with
    | none => rfl
    | some d =>
      have hb := last_bounds hn
      rw [show (toLeg x).cut = x.f5 from rfl] at hb
      dsimp only
      rw [show (toLeg x).cut = x.f5 from rfl]
      by_cases hA : -(d - x.f5) ≤ -t + 86400
      · rw [if_pos hA, if_pos (by omega)]
        dsimp only
        have key : ∀ X : Option Int, max (Net.encN (N x.f1)) (d - x.f5) = Net.encN X → (match N x.f1 with | none => some (-(d - x.f5)) | some v => if -(d - x.f5) < v then some (-(d - x.f5)) else some v) = X → (rowOf Net.encN pl N).set (posOf pl x.f1).toNat (max (Net.encN (N x.f1)) (d - x.f5)) = rowOf Net.encN pl (Net.putMin N x.f1 (-(d - x.f5))) := by
          intro X e1 e2
          rw [e1, rowOf_set hnd h1 h50]
          congr 1
          funext y
          unfold Net.putMin
          by_cases e : y = x.f1
          · subst e; rw [if_pos rfl, if_pos rfl]; exact e2.symm
          · rw [if_neg e, if_neg e]
        cases hq : N x.f1 with
        | none =>
          rw [hq] at key
          refine key (some (-(d - x.f5))) ?_ rfl
          simp only [Net.encN]; omega
        | some u =>
          rw [hq] at key
          by_cases hB : -(d - x.f5) < u
          · refine key (some (-(d - x.f5))) ?_ (if_pos hB)
            simp only [Net.encN]; omega
          · refine key (some u) ?_ (if_neg hB)
            simp only [Net.encN]; omega
      · rw [if_neg hA, if_neg (by omega)]
theorem backward_improves (pl : List Int) (sl : List S23) (bm n Bw Br : Nat) (many : Int) (vl : Value) (t : Int) (hnd : pl.Nodup) (h50 : pl.length ≤ 50) (ht0 : 0 ≤ t) (ht1 : t ≤ 1051898399)
    (hsl : ∀ x ∈ sl, legI x = true ∧ x.f1 ∈ pl ∧ x.f2 ∈ pl) :
    Improves 97 (.pointer (some ⟨Bw, 0, none⟩)) (.pointer (some ⟨Br, 0, none⟩)) Net.encN GB pl sl (fun x => Net.bedge (-t + 86400) (toLeg x)) (SInv pl bm n Bw Br many vl t) := by
  intro W x L N g hx hinv hL hN hg
  obtain ⟨hi, h1, h2⟩ := hsl x hx
  obtain ⟨i1, i2, i7, i8⟩ := legI_parts hi
  obtain ⟨p0, p1, p2⟩ := posOf_lt h1
  obtain ⟨q0, q1, q2⟩ := posOf_lt h2
  have hRN : -1 ≤ (rowOf Net.encN pl N).getD (posOf pl x.f1).toNat 0 ∧ (rowOf Net.encN pl N).getD (posOf pl x.f1).toNat 0 ≤ 1051898399 := by
    rw [rowOf_at h1 h50]
    cases hq : N x.f1 with
    | none => simp only [Net.encN]; omega
    | some u => have := hN.good _ _ hq; unfold GB at this; simp only [Net.encN]; omega
  have := backward1.calls (posOf pl) bm n Bw Br g many vl t x (rowOf Net.encN pl L) (rowOf Net.encN pl N) W (rowOf_length _ _ _) (rowOf_length _ _ _) i7 i8 i1 i2 (posOf pl x.f1).toNat (posOf pl x.f2).toNat (by omega) (by omega) (by omega) (by omega) ht0 ht1
    (fun d hd => by have := last_bounds hd; rw [show (toLeg x).cut = x.f5 from rfl] at this; exact this) hRN hinv.1 hinv.2.1 hinv.2.2.map hg
  rw [bwdRow_eq hnd h50 h1 h2 hL hN] at this
  exact this
set_option maxRecDepth 100000 in
set_option maxHeartbeats 2000000 in
theorem backward.calls (pl : List Int) (sl : List S23) (S : List Net.Leg) (hS : sl.map toLeg = S) (bm n : Nat) (many : Int) (Al : Option Addr) (cl : Nat) (p t : Int) (w : World) (hnd : pl.Nodup) (h50 : pl.length ≤ 50) (hp : p ∈ pl) (hpI : I64 p) (ht0 : 0 ≤ t) (ht1 : t ≤ 1051898399)
    (hsl : ∀ x ∈ sl, legI x = true ∧ x.f1 ∈ pl ∧ x.f2 ∈ pl) (hln : sl.length ≤ 200) (hcl : sl.length ≤ cl) (hm : PosIs w bm n pl) (hR : Kd.C k23 w Al sl.length sl) :
    Calls Try.prog 64 #[.agg #[.map (some bm), .int .i64 many, .slice Al sl.length cl], .int .i64 p, .int .i64 t] w fun e w' => ∃ v, e = .returned v ∧ ∃ k,
      Kd.R k112 112 w' w.heap.size (fun _ => True) v ((List.range (k + 1)).map fun j => rowOf Net.encN pl (Net.bwd S p t j)) ∧ Below w.heap.size w w' ∧ k ≤ pl.length ∧ Net.bwd S p t (k + 1) = Net.bwd S p t k := by
  have hE : sl.map (fun x => Net.bedge (-t + 86400) (toLeg x)) = S.map (Net.bedge (-t + 86400)) := by rw [← hS, List.map_map]; rfl
  have hd : ∀ l ∈ S, l.src ∈ pl := by
    intro l hl
    rw [← hS] at hl
    obtain ⟨x, hx, rfl⟩ := List.mem_map.1 hl
    exact (hsl x hx).2.1
  have hst : Net.rows (sl.map fun x => Net.bedge (-t + 86400) (toLeg x)) (Net.start p (-t)) (pl.length + 1) = Net.rows (sl.map fun x => Net.bedge (-t + 86400) (toLeg x)) (Net.start p (-t)) pl.length := by
    rw [hE]
    exact Net.bwd_stable p t hp hd (Nat.le_succ _)
  have hedge : ∀ x ∈ sl, (Net.bedge (-t + 86400) (toLeg x)).dst ∈ pl ∧ ∀ t' v, (Net.bedge (-t + 86400) (toLeg x)).g t' = some v → GB v := fun x hx => ⟨(hsl x hx).2.1, fun t' v hv => by
    obtain ⟨d, h1, _, h3⟩ := Net.bedge_g.1 hv
    have h4 := last_bounds h1
    unfold GB
    omega⟩
  have HSt := Aside0.mk (start_row (ef := Net.encN) (t := -t) (v := t) rfl hnd hp h50 (show - -t = t by omega))
  obtain ⟨p0, p1, p2⟩ := posOf_lt hp
  have hl0 := rowOf_length Net.encN pl (Net.start p (-t))
  have HR0 := Aside0.mk hR
  have HM := Aside0.mk hm
  have HPI := Aside0.mk hpI
  clear hR hm hpI
  have hN : noneR.length = 50 := by simp [noneR]
  obtain ⟨q, hq⟩ : ∃ q : Nat, (q : Int) = posOf pl p := ⟨(posOf pl p).toNat, by omega⟩
  have hq50 : q < 50 := by omega
  have hq2 : (posOf pl p).toNat = q := by omega
  rw [hq2] at HSt
  -- the world once the two are boxed
  obtain ⟨w1, hw1⟩ : ∃ w1, w1 = (w.alloc (.cells #[.map (some bm), .int .i64 many, .slice Al sl.length cl] 106)).alloc (.cells #[.int .i64 t] 3) := ⟨_, rfl⟩
  have A1 : Aside0 (w1.heap[w.heap.size]? = some (.cells #[.map (some bm), .int .i64 many, .slice Al sl.length cl] 106 (0, 0))) := ⟨by rw [hw1]; exact blk_alloc (blk_new w _) _⟩
  have A2 : Aside0 (w1.heap[w.heap.size + 1]? = some (.cells #[.int .i64 t] 3 (0, 0))) := ⟨by rw [hw1]; have := blk_new (w.alloc (.cells #[.map (some bm), .int .i64 many, .slice Al sl.length cl] 106)) (.cells #[.int .i64 t] 3); simpa using this⟩
  have A3 : Aside0 (PosIs w1 bm n pl) := ⟨by rw [hw1]; exact (HM.out.alloc _).alloc _⟩
  have A4 : Aside0 (Below w.heap.size w w1) := ⟨by rw [hw1]; exact ((Below.refl _ _).alloc (Nat.le_refl _) _).alloc (by simp) _⟩
  go_enter Try.func64, Try.ntmps64
  have hmf : ∀ (fn : Fn) (first cap : Array Value) (w : World), (Instr.makeFunc fn first cap).run Try.prog w = .ok (.func fn first cap) w := fun _ _ _ _ => rfl
  have hc : (rowC noneR)[q]? = some (.int .i64 (noneR.getD q 0)) := rowC_get _ _ (by omega)
  have hq50' : (q : Int) < 50 := by omega
  go_wp2_with (first | (go_at_call 93; rw [← hw1]; refine (route_none.calls w1).mono ?_; rintro e w2 ⟨rfl, hb⟩; have C1 := Aside0.mk (blk_below A1.out hb); have C2 := Aside0.mk (blk_below A2.out hb); have C3 := Aside0.mk (A3.out.below hb); have C4 := Aside0.mk (below_then A4.out A4.out.size hb); clear hb; have x0 : w2.cell? ⟨w.heap.size, 0, none⟩ = some (.map (some bm)) := (blk_cell C1.out 0).trans rfl; have x1 : w2.cell? ⟨w.heap.size, 1, none⟩ = some (.int .i64 many) := (blk_cell C1.out 1).trans rfl; have x2 : w2.cell? ⟨w.heap.size, 2, none⟩ = some (.slice Al sl.length cl) := (blk_cell C1.out 2).trans rfl; have x3 : w2.cell? ⟨w.heap.size + 1, 0, none⟩ = some (.int .i64 t) := (blk_cell C2.out 0).trans rfl; have z0 := blk_lt C1.out; have z1 := blk_lt C2.out) | ((with_reducible refine gate_dst (N := 7) rfl ?_); refine row_alloc rfl rfl ?_) | ((with_reducible refine gate_store (t := 112) (p := 7) rfl ?_); refine row_store_new rfl rfl (.tmp 7) (.tmp 8) rfl rfl noneR hN rfl ?_) | ((with_reducible refine gate_dst (N := 12) rfl ?_); refine map_lookup rfl _ _ rfl bm _ _ rfl (C3.out.alloc _).map p q rfl HPI.out hq.symm ?_) | ((with_reducible refine gate_dst (N := 16) rfl ?_); rw [rowC_set, HSt.out]; refine row_load rfl (.tmp 7) rfl w2.heap.size rfl _ hl0 (blk_new w2 _) ?_) | (go_at_call 94; refine (rounds.calls 97 _ _ Net.encN GB pl sl (fun x => Net.bedge (-t + 86400) (toLeg x)) (SInv pl bm n w.heap.size (w.heap.size + 1) many (.slice Al sl.length cl) t) (enters_of Try.func97 (by kernel_rfl) rfl) (backward_improves pl sl bm n _ _ many _ t hnd h50 ht0 ht1 hsl) hedge encN_inj h50 (by omega) (Net.start p (-t)) (start_ok hp (show GB (-t) by unfold GB; omega)) hst (some bm) many Al cl _ (Kd.C_below HR0.out (C4.out.alloc C4.out.size _)) hcl ⟨blk_alloc C1.out _, blk_alloc C2.out _, C3.out.alloc _⟩ (SInv.kept (by have := C3.out.lt; simp; omega) (by simp; omega) (by simp; omega))).mono ?_; rintro e w5 ⟨v, rfl, k, r1, r2, r3, r4⟩; have R1 := Aside0.mk r1; have R2 := Aside0.mk r2; clear r1 r2))
  go_ret
  refine ⟨_, rfl, k, ?_, ?_, r3, ?_⟩
  · have := Kd.R_lower R1.out (base' := w.heap.size) (by have := C4.out.size; simp; omega)
    unfold rowsL at this
    rw [hE] at this
    exact this
  · exact below_then (C4.out.alloc C4.out.size _) (by have := C4.out.size; simp; omega) R2.out
  · rw [hE] at r4
    exact r4
end Go.Proofs.Ytdpadeklociinaa.PA
