import Derived.Test.YtdpadeklociinaaHRowAll
import Derived.Test.YtdpadeklociinaaHFwd
import Derived.Shelf.Abstract
set_option linter.unusedVariables false
namespace Go.Proofs.Ytdpadeklociinaa.PA
open Go.RowKit Go.Maps Go.Proofs.YtdpadeklociinaaW.PrintWords Go.Proofs.YtdpadeklociinaaW.PrintLast Go.Proofs.YtdpadeklociinaaW.PrintMore Go.Proofs.Ytdpadeklociinaa

/-- What the closure that improves a row does: one edge relaxed. -/
def Improves (fn : Nat) (c1 c2 : Value) (ef : Option Int → Int) (G : Int → Prop) (pl : List Int) (sl : List S23) (E : S23 → Net.Edge) (inv : World → Prop) : Prop :=
  ∀ (W : World) (x : S23) (L N : Net.Row) (g : Nat), x ∈ sl → inv W → RowOk G pl L → RowOk G pl N → W.heap[g]? = some (.cells (rowC (rowOf ef pl N)) 112 (0, 0)) →
    Calls Try.prog fn #[.agg (legV x), rowV (rowOf ef pl L), .pointer (some ⟨g, 0, none⟩), c1, c2] W fun e w' => e = .returned (.tuple #[]) ∧ w'.heap[g]? = some (.cells (rowC (rowOf ef pl (Net.relax1 L N (E x)))) 112 (0, 0)) ∧ W.grownBy w' (some g)

def rowsL (ef : Option Int → Int) (pl : List Int) (E : List Net.Edge) (first : Net.Row) (k : Nat) : List (List Int) := (List.range (k + 1)).map fun j => rowOf ef pl (Net.rows E first j)
theorem rowsL_length (ef : Option Int → Int) (pl : List Int) (E : List Net.Edge) (first : Net.Row) (k : Nat) : (rowsL ef pl E first k).length = k + 1 := by simp [rowsL]
theorem rowsL_get (ef : Option Int → Int) (pl : List Int) (E : List Net.Edge) (first : Net.Row) (k j : Nat) (h : j ≤ k) : (rowsL ef pl E first k).getD j [] = rowOf ef pl (Net.rows E first j) := by
  unfold rowsL
  rw [List.getD_eq_getElem?_getD, List.getElem?_map, List.getElem?_range (by omega)]
  rfl
theorem rowsL_snoc (ef : Option Int → Int) (pl : List Int) (E : List Net.Edge) (first : Net.Row) (k : Nat) : rowsL ef pl E first (k + 1) = rowsL ef pl E first k ++ [rowOf ef pl (Net.rows E first (k + 1))] := by
  unfold rowsL
  rw [List.range_succ, List.map_append]; rfl

set_option maxRecDepth 100000 in
set_option maxHeartbeats 4000000 in
theorem rounds.calls (fn : Nat) (c1 c2 : Value) (ef : Option Int → Int) (G : Int → Prop) (pl : List Int) (sl : List S23) (E : S23 → Net.Edge) (inv : World → Prop) (eg : ∀ args w, (callFunc fn args).run Try.prog w = .ok (.enter fn args) w)
    (HC : Improves fn c1 c2 ef G pl sl E inv) (hedge : ∀ x ∈ sl, (E x).dst ∈ pl ∧ ∀ t v, (E x).g t = some v → G v)
    (hinj : ∀ a b : Option Int, (∀ v, a = some v → G v) → (∀ v, b = some v → G v) → ef a = ef b → a = b) (h50 : pl.length ≤ 50) (hsl : sl.length ≤ 1000)
    (first : Net.Row) (hf : RowOk G pl first) (hst : Net.rows (sl.map E) first (pl.length + 1) = Net.rows (sl.map E) first pl.length)
    (mv : Option Nat) (many : Int) (Al : Option Addr) (cl : Nat) (w : World) (hR : Kd.C k23 w Al sl.length sl) (hcl : sl.length ≤ cl) (hinv0 : inv w)
    (hinv : ∀ W W' row, inv W → W.grownBy W' row → (∀ g, row = some g → w.heap.size ≤ g) → inv W') :
    Calls Try.prog 94 #[.agg #[.map mv, .int .i64 many, .slice Al sl.length cl], rowV (rowOf ef pl first), .func (.func fn) #[] #[c1, c2]] w fun e w' => ∃ v, e = .returned v ∧ ∃ k,
      Kd.R k112 112 w' w.heap.size (fun _ => True) v (rowsL ef pl (sl.map E) first k) ∧ Below w.heap.size w w' ∧ k ≤ pl.length ∧ Net.rows (sl.map E) first (k + 1) = Net.rows (sl.map E) first k := by
  have HRl := Aside0.mk hR
  have HCC := Aside0.mk HC
  have HIN := Aside0.mk hinv
  have HI0 := Aside0.mk hinv0
  clear hR HC hinv hinv0
  have hl0 := rowOf_length ef pl first
  have HF := Aside0.mk (show rowOf ef pl first = rowOf ef pl (Net.rows (sl.map E) first 0) from rfl)
  have B0 : Aside0 (∃ w1, w1 = ((w.alloc (.cells #[.map mv, .int .i64 many, .slice Al sl.length cl] 106)).alloc (.cells (rowC (rowOf ef pl first)) 112))) := ⟨⟨_, rfl⟩⟩
  have K1 : Aside0 ((((w.alloc (.cells #[.map mv, .int .i64 many, .slice Al sl.length cl] 106)).alloc (.cells (rowC (rowOf ef pl first)) 112))).heap[w.heap.size + 1]? = some (.cells (rowC (rowOf ef pl first)) 112 (0, 0))) :=
    ⟨by have := blk_new (w.alloc (.cells #[.map mv, .int .i64 many, .slice Al sl.length cl] 106)) (.cells (rowC (rowOf ef pl first)) 112); simpa using this⟩
  clear B0
  go_enter Try.func94, Try.ntmps94
  go_wp2_with (first | ((with_reducible refine gate_dst (N := 4) rfl ?_); refine row_box rfl (.tmp 1) rfl (rowOf ef pl first) rfl ?_) | ((with_reducible refine gate_dst (N := 12) rfl ?_); refine row_load rfl (.tmp 4) rfl (w.heap.size + 1) rfl _ hl0 K1.out ?_) | ((with_reducible refine gate_dst (N := 13) rfl ?_); refine row_lit rfl (.tmp 12) rfl _ hl0 rfl ?_))
  have M0 := Aside0.mk (((Below.refl w.heap.size w).alloc (Nat.le_refl _) (.cells #[.map mv, .int .i64 many, .slice Al sl.length cl] 106)).alloc (by simp) (.cells (rowC (rowOf ef pl first)) 112))
  have I0 := Aside0.mk (HIN.out _ _ none (HIN.out _ _ none (HIN.out _ _ none HI0.out (World.grownBy_alloc w (.cells #[.map mv, .int .i64 many, .slice Al sl.length cl] 106) none) (by simp)) (World.grownBy_alloc _ (.cells (rowC (rowOf ef pl first)) 112) none) (by simp)) (World.grownBy_alloc _ (.cells (rowC (rowOf ef pl first)) 112) none) (by simp))
  go_loopw [7] (fun v wr => ∃ k, Aside0 (Kd.R k112 112 wr w.heap.size (fun _ => True) v (rowsL ef pl (sl.map E) first k)) ∧ Aside0 (∀ j, j < k → Net.rows (sl.map E) first (j + 1) ≠ Net.rows (sl.map E) first j) ∧ Aside0 (Below w.heap.size w wr) ∧ Aside0 (inv wr) ∧ Aside0 (wr.heap[w.heap.size]? = some (.cells #[.map mv, .int .i64 many, .slice Al sl.length cl] 106 (0, 0)))) (fun v _ => match v with | .slice _ n _ => 60 - n | _ => 0)
  case atStart =>
    refine ⟨0, ⟨?_⟩, ⟨fun j h => by omega⟩, ⟨M0.out.alloc M0.out.size _⟩, I0, ⟨?_⟩⟩
    · have := R_one ((w.alloc (.cells #[.map mv, .int .i64 many, .slice Al sl.length cl] 106)).alloc (.cells (rowC (rowOf ef pl first)) 112)) (rowOf ef pl first) hl0 w.heap.size M0.out.size
      simp only [World.size_alloc] at this
      exact this
    · exact blk_alloc (blk_alloc (blk_new w _) _) _
  case round =>
    obtain ⟨k, HRk, HNk, HB, HI, BK⟩ := hrel
    clear M0 I0 K1
    have hk : k ≤ pl.length := by
      have := HNk.out pl.length
      rcases Nat.lt_or_ge pl.length k with h | h
      · exact absurd hst (this h)
      · exact h
    have hlen := rowsL_length ef pl (sl.map E) first k
    obtain ⟨g, cap, rfl, hgb, hglt⟩ := Kd.R_form HRk.out (by rw [hlen]; omega)
    rw [hlen] at HRk ⊢
    have hel := rows_elem (by rw [hlen]; exact HRk.out) k (by rw [hlen]; omega)
    rw [rowsL_get _ _ _ _ _ _ (Nat.le_refl k)] at hel
    have HEL := Aside0.mk hel.2
    clear hel
    have hLl := rowOf_length ef pl (Net.rows (sl.map E) first k)
    obtain ⟨RL, hRL⟩ : ∃ RL, RL = rowOf ef pl (Net.rows (sl.map E) first k) := ⟨_, rfl⟩
    rw [← hRL] at HEL hLl
    have HRL := Aside0.mk hRL
    clear hRL
    have hRk : RowOk G pl (Net.rows (sl.map E) first k) := RowOk.rows hf _ (fun e he => by obtain ⟨x, hx, rfl⟩ := List.mem_map.1 he; exact hedge x hx) k
    have KA := Aside0.mk (blk_new wr (.cells (rowC RL) 112))
    have KB : Aside0 (((wr.alloc (.cells (rowC RL) 112)).alloc (.cells (rowC RL) 112)).heap[wr.heap.size + 1]? = some (.cells (rowC RL) 112 (0, 0))) := ⟨by have := blk_new (wr.alloc (.cells (rowC RL) 112)) (.cells (rowC RL) 112); simpa using this⟩
    have kw2 : wr.cell? ⟨w.heap.size, 2, none⟩ = some (.slice Al sl.length cl) := (blk_cell BK.out 2).trans rfl
    have kw3 := blk_lt BK.out
    go_wp2_with (first | ((with_reducible refine gate_dst (N := 19) rfl ?_); refine row_loadm rfl (.tmp 18) rfl g (k * 50) rfl RL hLl HEL.out ?_) | ((with_reducible refine gate_dst (N := 8) rfl ?_); refine row_alloc rfl rfl ?_) | ((with_reducible refine gate_store (t := 112) (p := 8) rfl ?_); refine row_store_new rfl rfl (.tmp 8) (.tmp 19) rfl rfl RL hLl rfl ?_) | ((with_reducible refine gate_dst (N := 20) rfl ?_); refine row_load rfl (.tmp 8) rfl wr.heap.size rfl RL hLl KA.out ?_) | ((with_reducible refine gate_dst (N := 9) rfl ?_); refine row_alloc rfl rfl ?_) | ((with_reducible refine gate_store (t := 112) (p := 9) rfl ?_); refine row_store_new rfl rfl (.tmp 9) (.tmp 20) rfl rfl RL hLl rfl ?_))
    obtain ⟨ga, hga⟩ : ∃ ga, ga = wr.heap.size := ⟨_, rfl⟩
    have HGA := Aside0.mk hga
    obtain ⟨wn, hwn⟩ : ∃ wn, wn = (wr.alloc (.cells (rowC RL) 112)).alloc (.cells (rowC RL) 112) := ⟨_, rfl⟩
    have N1 : Aside0 (wn.heap[ga]? = some (.cells (rowC RL) 112 (0, 0))) := ⟨by rw [hwn, hga]; exact blk_alloc KA.out _⟩
    have N2 : Aside0 (wn.heap[ga + 1]? = some (.cells (rowC RL) 112 (0, 0))) := ⟨by rw [hwn, hga]; exact KB.out⟩
    have N3 : Aside0 (Below w.heap.size w wn) := ⟨by rw [hwn]; exact (HB.out.alloc HB.out.size _).alloc (by have := HB.out.size; simp; omega) _⟩
    have N4 : Aside0 (inv wn) := ⟨by rw [hwn]; exact HIN.out _ _ none (HIN.out _ _ none HI.out (World.grownBy_alloc _ _ none) (by simp)) (World.grownBy_alloc _ _ none) (by simp)⟩
    have N5 : Aside0 (wn.heap[w.heap.size]? = some (.cells #[.map mv, .int .i64 many, .slice Al sl.length cl] 106 (0, 0))) := ⟨by rw [hwn]; exact blk_alloc (blk_alloc BK.out _) _⟩
    have N6 : Aside0 (Kd.R k112 112 wn w.heap.size (fun k => k < ga) (.slice (some ⟨g, 0, none⟩) (k + 1) cap) (rowsL ef pl (sl.map E) first k)) := ⟨by
      rw [hwn, hga]
      exact Kd.R_alloc (Kd.R_alloc (Kd.R_mono (Kd.R_bound HRk.out) (fun q hq => hq.2.2.1)) _) _⟩
    have N7 : Aside0 (w.heap.size ≤ ga) := ⟨by rw [hga]; exact HB.out.size⟩
    rw [← hwn, ← hga]
    clear hwn hga KA KB BK HB HI HRk kw2 kw3 HEL
    go_loopw [24] (fun i wq => ∃ x : Int, i = .int .i64 x ∧ Aside0 (0 ≤ x ∧ x ≤ sl.length) ∧ Aside0 (wq.heap[ga]? = some (.cells (rowC RL) 112 (0, 0))) ∧
      Aside0 (wq.heap[ga + 1]? = some (.cells (rowC (rowOf ef pl (((sl.take x.toNat).map E).foldl (Net.relax1 (Net.rows (sl.map E) first k)) (Net.rows (sl.map E) first k)))) 112 (0, 0))) ∧
      Aside0 (Below w.heap.size w wq) ∧ Aside0 (inv wq) ∧ Aside0 (wq.heap[w.heap.size]? = some (.cells #[.map mv, .int .i64 many, .slice Al sl.length cl] 106 (0, 0))) ∧
      Aside0 (Kd.R k112 112 wq w.heap.size (fun k => k < ga) (.slice (some ⟨g, 0, none⟩) (k + 1) cap) (rowsL ef pl (sl.map E) first k))) (fun i _ => sl.length - (intOf i).toNat)
    case atStart => exact ⟨0, rfl, ⟨by omega⟩, N1, ⟨by rw [show (0 : Int).toNat = 0 from rfl, List.take_zero, List.map_nil, List.foldl_nil, ← HRL.out]; exact N2.out⟩, N3, N4, N5, N6⟩
    case round =>
      clear N1 N2 N3 N4 N5 N6
      obtain ⟨x, rfl, HX, N1, N2, N3, N4, N5, N6⟩ := hrel
      have hx0 : 0 ≤ x := HX.out.1
      by_cases hx : x < (sl.length : Int)
      · obtain ⟨ad, rfl, g0, g1, g2, g3, g4, g5, g6, g7⟩ := at_T23 HRl.out x hx0 hx
        replace g0 := (N3.out.cell (World.block_lt_of_cell? w _ g0)).trans g0
        replace g1 := (N3.out.cell (World.block_lt_of_cell? w _ g1)).trans g1
        replace g2 := (N3.out.cell (World.block_lt_of_cell? w _ g2)).trans g2
        replace g3 := (N3.out.cell (World.block_lt_of_cell? w _ g3)).trans g3
        replace g4 := (N3.out.cell (World.block_lt_of_cell? w _ g4)).trans g4
        replace g5 := (N3.out.cell (World.block_lt_of_cell? w _ g5)).trans g5
        replace g6 := (N3.out.cell (World.block_lt_of_cell? w _ g6)).trans g6
        replace g7 := (N3.out.cell (World.block_lt_of_cell? w _ g7)).trans g7
        have hxl : x.toNat < sl.length := by omega
        have hxm : rd_T23 sl x ∈ sl := by
          unfold rd_T23
          rw [List.getD_eq_getElem?_getD, List.getElem?_eq_getElem hxl]
          exact List.getElem_mem hxl
        have hstep := Net.take_succ_getD sl z23 x.toNat hxl
        rw [show sl.getD x.toNat z23 = rd_T23 sl x from rfl] at hstep
        have HM := Aside0.mk hxm
        have HS := Aside0.mk hstep
        clear hxm hstep
        generalize rd_T23 sl x = e at *
        have hRN : RowOk G pl (((sl.take x.toNat).map E).foldl (Net.relax1 (Net.rows (sl.map E) first k)) (Net.rows (sl.map E) first k)) := RowOk.fold hRk _ _ hRk (fun e' he' => by
          obtain ⟨y, hy, rfl⟩ := List.mem_map.1 he'
          exact hedge y (List.mem_of_mem_take hy))
        have HCl := HCC.out (wr.alloc (.cells (legV e) 23)) e (Net.rows (sl.map E) first k) _ (ga + 1) HM.out (HIN.out _ _ none N4.out (World.grownBy_alloc _ _ none) (by simp)) hRk hRN (blk_alloc N2.out _)
        rw [← HRL.out] at HCl
        have HCL := Aside0.mk HCl
        have N1' := Aside0.mk (blk_alloc N1.out (.cells (legV e) 23))
        clear HCl
        go_wp2_with (first | ((with_reducible refine gate_dst (N := 30) rfl ?_); refine row_load rfl (.tmp 8) rfl ga rfl RL hLl N1'.out ?_) | (go_at_fn fn; refine HCL.out.mono ?_; rintro e' w' ⟨rfl, q1, q2⟩; have Q1 := Aside0.mk q1; have Q2 := Aside0.mk q2; clear q1 q2))
        go_roundw
        case rel =>
          have e1 : (x + 1).toNat = x.toNat + 1 := by omega
          refine ⟨x + 1, by go_num, ⟨by omega⟩, ⟨?_⟩, ⟨?_⟩, ⟨?_⟩, ⟨?_⟩, ⟨?_⟩, ⟨?_⟩⟩
          · exact blk_grown N1'.out Q2.out (by intro h; injection h with h; omega)
          · rw [e1, HS.out, List.map_append, List.map_cons, List.map_nil, List.foldl_append, List.foldl_cons, List.foldl_nil]
            exact Q1.out
          · exact (N3.out.alloc N3.out.size _).grown Q2.out (by have := N3.out.size; simp; omega) (fun q h => by injection h with h; have := N7.out; omega)
          · exact HIN.out _ _ _ (HIN.out _ _ none N4.out (World.grownBy_alloc _ _ none) (by simp)) Q2.out (fun q h => by injection h with h; have := N7.out; omega)
          · exact blk_grown (blk_alloc N5.out _) Q2.out (by intro h; injection h with h; have := N7.out; omega)
          · exact Kd.R_grown (Kd.R_alloc N6.out _) Q2.out (fun q h e => by injection e with e; omega)
        case measure => simp [intOf]; omega
      · obtain rfl : x = (sl.length : Int) := by have := HX.out; omega
        rw [Int.toNat_natCast, List.take_length] at N2
        have hnx : Net.rows (sl.map E) first (k + 1) = (sl.map E).foldl (Net.relax1 (Net.rows (sl.map E) first k)) (Net.rows (sl.map E) first k) := rfl
        rw [← hnx] at N2
        have hRn : RowOk G pl (Net.rows (sl.map E) first (k + 1)) := RowOk.rows hf _ (fun e he => by obtain ⟨x, hx, rfl⟩ := List.mem_map.1 he; exact hedge x hx) (k + 1)
        have hNl := rowOf_length ef pl (Net.rows (sl.map E) first (k + 1))
        obtain ⟨RN, hRN⟩ : ∃ RN, RN = rowOf ef pl (Net.rows (sl.map E) first (k + 1)) := ⟨_, rfl⟩
        rw [← hRN] at N2 hNl
        have HRN := Aside0.mk hRN
        clear hRN hnx
        by_cases he : Net.rows (sl.map E) first (k + 1) = Net.rows (sl.map E) first k
        · have hd : decide (RN = RL) = true := decide_eq_true (by rw [HRN.out, HRL.out, he])
          have HE := Aside0.mk he
          clear he
          go_wp2_with (first | ((with_reducible refine gate_dst (N := 33) rfl ?_); refine row_load rfl (.tmp 9) rfl (ga + 1) rfl RN hNl N2.out ?_) | ((with_reducible refine gate_dst (N := 34) rfl ?_); refine row_load rfl (.tmp 8) rfl ga rfl RL hLl N1.out ?_) | ((with_reducible refine gate_dst (N := 35) rfl ?_); refine row_eqlb rfl (.tmp 33) (.tmp 34) rfl RN RL true hNl hLl rfl rfl hd ?_))
          go_ret
          exact ⟨_, rfl, k, Kd.R_mono N6.out (fun _ _ => trivial), N3.out, hk, HE.out⟩
        · have hd : decide (RN = RL) = false := decide_eq_false (fun e => he (RowOk.ext hinj h50 hRn hRk (by rw [← HRN.out, ← HRL.out, e])))
          have HE := Aside0.mk he
          clear he
          have N6' : Aside0 (Kd.R k112 112 wr w.heap.size (fun _ => True) (.slice (some ⟨g, 0, none⟩) (k + 1) cap) (rowsL ef pl (sl.map E) first k)) := ⟨Kd.R_mono N6.out (fun _ _ => trivial)⟩
          go_wp2_with (first | ((with_reducible refine gate_dst (N := 33) rfl ?_); refine row_load rfl (.tmp 9) rfl (ga + 1) rfl RN hNl N2.out ?_) | ((with_reducible refine gate_dst (N := 34) rfl ?_); refine row_load rfl (.tmp 8) rfl ga rfl RL hLl N1.out ?_) | ((with_reducible refine gate_dst (N := 35) rfl ?_); refine row_eqlb rfl (.tmp 33) (.tmp 34) rfl RN RL false hNl hLl rfl rfl hd ?_) | ((with_reducible refine gate_dst (N := 38) rfl ?_); refine row_load rfl (.tmp 9) rfl (ga + 1) rfl RN hNl N2.out ?_) | ((with_reducible refine gate_dst (N := 39) rfl ?_); refine row_lit rfl (.tmp 38) rfl RN hNl rfl ?_) | ((with_reducible refine gate_builtin (b := .append) (xs := #[.tmp 37, .tmp 39]) rfl ?_); at_builtin; refine Kd.R_append k112 (w0 := w) w.heap.size rfl (.tmp 37) (.tmp 39) 109 112 (rowV zeroR) 400 rfl Try.underlying109 info112 (by rw [show (rowV zeroR).cells = rowC zeroR from rfl, rowC_size, zeroR_length]; rfl) (by decide) (by decide) _ (rowsL ef pl (sl.map E) first k) RN (rowL RN) (fun _ => True) (fun _ => False) rfl rfl ⟨hNl, rfl⟩ (fun _ h => h.elim) (fun _ _ => trivial) N6'.out N3.out N3.out.size (by rw [hlen]; omega) ?_; intro v1 w1 r1 r2 r3 r4; have R1 := Aside0.mk r1; have R2 := Aside0.mk r2; have R3 := Aside0.mk r3; clear r1 r2 r3 r4))
          go_roundw
          case rel =>
            refine ⟨k + 1, ⟨?_⟩, ⟨fun j hj => ?_⟩, R2, ⟨?_⟩, ⟨?_⟩⟩
            · rw [rowsL_snoc, ← HRN.out]; exact R1.out
            · rcases Nat.lt_or_ge j k with h | h
              · exact HNk.out j h
              · have : j = k := by omega
                subst this
                exact HE.out
            · exact HIN.out _ _ _ N4.out R3.out (fun q h => Kd.R_base N6'.out q h)
            · exact blk_grown N5.out R3.out (Kd.R_ne N6'.out N5.out (by decide))
          case measure =>
            obtain ⟨A, c, ev⟩ := Kd.R_slice R1.out
            subst ev
            simp [hlen]
            omega
end Go.Proofs.Ytdpadeklociinaa.PA
