import Derived.Test.YtdpadeklociinaaHTake
set_option linter.unusedVariables false
namespace Go.Proofs.Ytdpadeklociinaa.PA
open Go.RowKit Go.Maps Go.Proofs.YtdpadeklociinaaW.PrintWords Go.Proofs.YtdpadeklociinaaW.PrintLast Go.Proofs.YtdpadeklociinaaW.PrintMore Go.Proofs.Ytdpadeklociinaa

/-- Is this leg taken? Its departure. -/
def takeS (p t : Int) (late : Net.Row) (x : S23) : Option Int :=
  if x.f1 = p then match Net.next (toLeg x) t with
    | some d => if d + x.f4 ≤ Net.encN (late x.f2) then some d else none
    | none => none
  else none
def pickS (p t : Int) (late : Net.Row) : List S23 → Option (S23 × Int)
  | [] => none
  | x :: r => match takeS p t late x with
    | some d => some (x, d)
    | none => pickS p t late r
theorem pickS_snoc (p t : Int) (late : Net.Row) (x : S23) : ∀ l : List S23, pickS p t late l = none → pickS p t late (l ++ [x]) = (takeS p t late x).map fun d => (x, d)
  | [], _ => by
    show pickS p t late [x] = _
    unfold pickS
    cases takeS p t late x <;> rfl
  | y :: l, h => by
    unfold pickS at h
    rw [List.cons_append]
    unfold pickS
    cases hy : takeS p t late y with
    | some d => rw [hy] at h; cases h
    | none => rw [hy] at h; exact pickS_snoc p t late x l h
theorem pickS_some (p t : Int) (late : Net.Row) : ∀ (l m : List S23) (q : S23 × Int), pickS p t late l = some q → pickS p t late (l ++ m) = some q
  | [], m, q, h => by cases h
  | y :: l, m, q, h => by
    unfold pickS at h
    rw [List.cons_append]
    unfold pickS
    cases hy : takeS p t late y with
    | some d => rw [hy] at h; exact h
    | none => rw [hy] at h; exact pickS_some p t late l m q h
theorem pickS_pick (p t : Int) (late : Net.Row) (hG : ∀ q v, late q = some v → GB v) : ∀ l : List S23, (pickS p t late l).map (fun q => (toLeg q.1, q.2)) = Net.pick (l.map toLeg) p t late
  | [] => rfl
  | x :: l => by
    have ih := pickS_pick p t late hG l
    rw [List.map_cons, Net.pick, show (toLeg x).src = x.f1 from rfl, show (toLeg x).dst = x.f2 from rfl, show (toLeg x).mins = x.f4 from rfl]
    unfold pickS takeS
    by_cases e : x.f1 = p
    · rw [if_pos e, if_pos e]
      cases hn : Net.next (toLeg x) t with
      | none => exact ih
      | some d =>
        dsimp only
        have hb := Net.next_lt hn
        rw [show (toLeg x).mins = x.f4 from rfl] at hb
        cases hl : late x.f2 with
        | none =>
          rw [show Net.encN none = -1 from rfl, if_neg (by omega)]
          exact ih
        | some v =>
          rw [show Net.encN (some v) = -v from rfl]
          dsimp only
          by_cases hc : d + x.f4 ≤ -v
          · rw [if_pos hc, if_pos hc]; rfl
          · rw [if_neg hc, if_neg hc]; exact ih
    · rw [if_neg e, if_neg e]; exact ih
theorem results65 (tmps : Array Value) (W : World) (g8 g9 : Nat) (x : S23) (a b : Int) (h8 : tmps.getD 8 undef = .pointer (some ⟨g8, 0, none⟩)) (h9 : tmps.getD 9 undef = .pointer (some ⟨g9, 0, none⟩))
    (b8 : W.heap[g8]? = some (.cells (legV x) 23 (0, 0))) (b9 : W.heap[g9]? = some (.cells #[.int .i64 a, .int .i64 b] 114 (0, 0))) :
    (results Try.f65 tmps).run Try.prog W = .ok (.tuple #[.agg (legV x), .agg #[.int .i64 a, .int .i64 b]]) W := by
  have h8' : tmps[8]?.getD undef = .pointer (some ⟨g8, 0, none⟩) := by simpa using h8
  have h9' : tmps[9]?.getD undef = .pointer (some ⟨g9, 0, none⟩) := by simpa using h9
  have hr : Try.f65.results = #[.cell 8 23, .cell 9 114] := rfl
  have l4 := run_loadVar_row W g8 23 23 (legV x) (0, 0) _ b8 Try.underlying23 rfl (by kernel_rfl)
  have l5 := run_loadVar_row W g9 114 114 #[.int .i64 a, .int .i64 b] (0, 0) _ b9 Try.underlying114 rfl (by kernel_rfl)
  simp [results, h8', h9', asAddr, l4, l5]

theorem put10 {w w' : World} {g8 g9 : Nat} {z : S23} {c d : Int} (hne : g8 ≠ g9) (h8 : w.heap[g8]? = some (.cells (legV z) 23 (0, 0))) (h9 : w.heap[g9]? = some (.cells #[.int .i64 c, .int .i64 d] 114 (0, 0))) (a0 a1 a2 a3 a4 a5 a6 a7 a b : Int)
    (hw : w' = ((((((((((w.setCell ⟨g8, 0, none⟩ (.int .i64 a0)).setCell ⟨g8, 1, none⟩ (.int .i64 a1)).setCell ⟨g8, 2, none⟩ (.int .i64 a2)).setCell ⟨g8, 3, none⟩ (.int .i64 a3)).setCell ⟨g8, 4, none⟩ (.int .i64 a4)).setCell ⟨g8, 5, none⟩ (.int .i64 a5)).setCell ⟨g8, 6, none⟩ (.int .i64 a6)).setCell ⟨g8, 7, none⟩ (.int .u8 a7)).setCell ⟨g9, 0, none⟩ (.int .i64 a)).setCell ⟨g9, 1, none⟩ (.int .i64 b))) :
    w'.heap[g8]? = some (.cells (legV ⟨a0, a1, a2, a3, a4, a5, a6, a7⟩) 23 (0, 0)) ∧ w'.heap[g9]? = some (.cells #[.int .i64 a, .int .i64 b] 114 (0, 0)) ∧ ∀ B u, Below B u w → B ≤ g8 → B ≤ g9 → Below B u w' := by
  subst hw
  refine ⟨?_, ?_, fun B u hb h1 h2 => ((((((((((hb.setCell h1 _).setCell h1 _).setCell h1 _).setCell h1 _).setCell h1 _).setCell h1 _).setCell h1 _).setCell h1 _).setCell h2 _).setCell h2 _)⟩
  · refine blk_far (blk_far ?_ hne _) hne _
    have p0 := blk_put (cs' := legV ⟨a0, z.f1, z.f2, z.f3, z.f4, z.f5, z.f6, z.f7⟩) h8 0 (.int .i64 a0) rfl
    have p1 := blk_put (cs' := legV ⟨a0, a1, z.f2, z.f3, z.f4, z.f5, z.f6, z.f7⟩) p0 1 (.int .i64 a1) rfl
    have p2 := blk_put (cs' := legV ⟨a0, a1, a2, z.f3, z.f4, z.f5, z.f6, z.f7⟩) p1 2 (.int .i64 a2) rfl
    have p3 := blk_put (cs' := legV ⟨a0, a1, a2, a3, z.f4, z.f5, z.f6, z.f7⟩) p2 3 (.int .i64 a3) rfl
    have p4 := blk_put (cs' := legV ⟨a0, a1, a2, a3, a4, z.f5, z.f6, z.f7⟩) p3 4 (.int .i64 a4) rfl
    have p5 := blk_put (cs' := legV ⟨a0, a1, a2, a3, a4, a5, z.f6, z.f7⟩) p4 5 (.int .i64 a5) rfl
    have p6 := blk_put (cs' := legV ⟨a0, a1, a2, a3, a4, a5, a6, z.f7⟩) p5 6 (.int .i64 a6) rfl
    exact blk_put (cs' := legV ⟨a0, a1, a2, a3, a4, a5, a6, a7⟩) p6 7 (.int .u8 a7) rfl
  · have hne' : g9 ≠ g8 := fun e => hne e.symm
    have h9' := blk_far (blk_far (blk_far (blk_far (blk_far (blk_far (blk_far (blk_far h9 (p := ⟨g8, 0, none⟩) hne' (.int .i64 a0)) (p := ⟨g8, 1, none⟩) hne' (.int .i64 a1)) (p := ⟨g8, 2, none⟩) hne' (.int .i64 a2)) (p := ⟨g8, 3, none⟩) hne' (.int .i64 a3)) (p := ⟨g8, 4, none⟩) hne' (.int .i64 a4)) (p := ⟨g8, 5, none⟩) hne' (.int .i64 a5)) (p := ⟨g8, 6, none⟩) hne' (.int .i64 a6)) (p := ⟨g8, 7, none⟩) hne' (.int .u8 a7)
    exact blk_put (cs' := #[.int .i64 a, .int .i64 b]) (blk_put (cs' := #[.int .i64 a, .int .i64 d]) h9' 0 _ rfl) 1 _ rfl

def zLeg : S23 := ⟨0, 0, 0, 0, 0, 0, 0, 0⟩
def resS : Option (S23 × Int) → Value
  | some q => .tuple #[.agg (legV q.1), .agg #[.int .i64 q.2, .int .i64 (q.2 + q.1.f4)]]
  | none => .tuple #[.agg (legV zLeg), .agg #[.int .i64 0, .int .i64 0]]
set_option maxRecDepth 100000 in
set_option maxHeartbeats 1500000 in
theorem step.calls (pl : List Int) (sl : List S23) (bm n : Nat) (many : Int) (Al : Option Addr) (cl : Nat) (p t : Int) (late : Net.Row) (w : World) (h50 : pl.length ≤ 50)
    (hsl : ∀ x ∈ sl, legI x = true ∧ x.f1 ∈ pl ∧ x.f2 ∈ pl) (hln : sl.length ≤ 200) (hm : PosIs w bm n pl) (hR : Kd.C k23 w Al sl.length sl) :
    Calls Try.prog 65 #[.agg #[.map (some bm), .int .i64 many, .slice Al sl.length cl], .int .i64 p, .int .i64 t, rowV (rowOf Net.encN pl late)] w fun e w' => e = .returned (resS (pickS p t late sl)) ∧ Below w.heap.size w w' := by
  obtain ⟨po, hpo⟩ : ∃ po, po = pickS p t late sl := ⟨_, rfl⟩
  rw [← hpo]
  have HPO := Aside0.mk hpo
  clear hpo
  have HR0 := Aside0.mk hR
  have HM := Aside0.mk hm
  clear hR hm
  have hl0 := rowOf_length Net.encN pl late
  go_enter Try.func65, Try.ntmps65
  go_wp2_with ((with_reducible refine gate_dst (N := 7) rfl ?_); refine row_box rfl (.tmp 3) rfl _ rfl ?_)
  go_loopw [17] (fun i wr => ∃ x : Int, i = .int .i64 x ∧ Aside0 (0 ≤ x ∧ x ≤ sl.length) ∧ Aside0 (pickS p t late (sl.take x.toNat) = none) ∧ Aside0 (wr.heap[w.heap.size]? = some (.cells #[.map (some bm), .int .i64 many, .slice Al sl.length cl] 106 (0, 0))) ∧ Aside0 (wr.heap[w.heap.size + 1]? = some (.cells (rowC (rowOf Net.encN pl late)) 112 (0, 0))) ∧
    Aside0 (wr.heap[w.heap.size + 1 + 1]? = some (.cells (legV zLeg) 23 (0, 0))) ∧ Aside0 (wr.heap[w.heap.size + 1 + 1 + 1]? = some (.cells #[.int .i64 0, .int .i64 0] 114 (0, 0))) ∧ Aside0 (PosIs wr bm n pl) ∧ Aside0 (Below w.heap.size w wr)) (fun i _ => sl.length - (intOf i).toNat)
  case atStart =>
    refine ⟨0, rfl, ⟨by omega⟩, ⟨rfl⟩, ⟨?_⟩, ⟨?_⟩, ⟨?_⟩, ⟨?_⟩, ⟨(((HM.out.alloc _).alloc _).alloc _).alloc _⟩, ⟨(((((Below.refl _ _).alloc (Nat.le_refl _) _).alloc (by simp) _).alloc (by simp; omega) _).alloc (by simp; omega) _)⟩⟩
    · exact blk_alloc (blk_alloc (blk_alloc (blk_new w _) _) _) _
    · have := blk_alloc (blk_alloc (blk_new (w.alloc (.cells #[.map (some bm), .int .i64 many, .slice Al sl.length cl] 106)) (.cells (rowC (rowOf Net.encN pl late)) 112)) (.cells (legV zLeg) 23)) (.cells #[.int .i64 0, .int .i64 0] 114)
      simp only [World.size_alloc] at this
      exact this
    · have := blk_alloc (blk_new ((w.alloc (.cells #[.map (some bm), .int .i64 many, .slice Al sl.length cl] 106)).alloc (.cells (rowC (rowOf Net.encN pl late)) 112)) (.cells (legV zLeg) 23)) (.cells #[.int .i64 0, .int .i64 0] 114)
      simp only [World.size_alloc] at this
      exact this
    · have := blk_new (((w.alloc (.cells #[.map (some bm), .int .i64 many, .slice Al sl.length cl] 106)).alloc (.cells (rowC (rowOf Net.encN pl late)) 112)).alloc (.cells (legV zLeg) 23)) (.cells #[.int .i64 0, .int .i64 0] 114)
      simp only [World.size_alloc] at this
      exact this
  case round =>
    obtain ⟨x, rfl, HX, HN, N1, N2, N3, N4, NP, NB⟩ := hrel
    have hx0 : 0 ≤ x := HX.out.1
    by_cases hx : x < (sl.length : Int)
    · obtain ⟨ad, rfl, g0, g1, g2, g3, g4, g5, g6, g7⟩ := at_T23 HR0.out x hx0 hx
      replace g0 := (NB.out.cell (World.block_lt_of_cell? w _ g0)).trans g0
      replace g1 := (NB.out.cell (World.block_lt_of_cell? w _ g1)).trans g1
      replace g2 := (NB.out.cell (World.block_lt_of_cell? w _ g2)).trans g2
      replace g3 := (NB.out.cell (World.block_lt_of_cell? w _ g3)).trans g3
      replace g4 := (NB.out.cell (World.block_lt_of_cell? w _ g4)).trans g4
      replace g5 := (NB.out.cell (World.block_lt_of_cell? w _ g5)).trans g5
      replace g6 := (NB.out.cell (World.block_lt_of_cell? w _ g6)).trans g6
      replace g7 := (NB.out.cell (World.block_lt_of_cell? w _ g7)).trans g7
      have hxl : x.toNat < sl.length := by omega
      have hxm : rd_T23 sl x ∈ sl := by
        unfold rd_T23
        rw [List.getD_eq_getElem?_getD, List.getElem?_eq_getElem hxl]
        exact List.getElem_mem hxl
      have hok := hsl _ hxm
      have hstep := Net.take_succ_getD sl z23 x.toNat hxl
      rw [show sl.getD x.toNat z23 = rd_T23 sl x from rfl] at hstep
      have HS := Aside0.mk hstep
      have HD := Aside0.mk (show sl = sl.take (x.toNat + 1) ++ sl.drop (x.toNat + 1) from (List.take_append_drop _ _).symm)
      clear hstep hxm
      generalize rd_T23 sl x = e at *
      obtain ⟨a0, a1, a2, a3, a4, a5, a6, a7⟩ := e
      dsimp only at g0 g1 g2 g3 g4 g5 g6 g7
      obtain ⟨hi, hm1, hm2⟩ := hok
      obtain ⟨i1, i2, i7, i8⟩ := legI_parts hi
      have HSN := Aside0.mk (pickS_snoc p t late ⟨a0, a1, a2, a3, a4, a5, a6, a7⟩ (sl.take x.toNat) HN.out)
      rw [← HS.out] at HSN
      dsimp only at hm1 hm2 i1 i2 i7 i8
      by_cases hp : a1 = p
      · subst hp
        have HX' : ∃ r1 r2 r3, network_Next.f a0 a1 a2 a3 a4 a5 a6 a7 t = some (r1, r2, r3) ∧ (match Net.next ⟨a0, a1, a2, a3, a4, a5, a6, a7⟩ t with | some d => (d, d + a4, true) | none => (0, 0, false)) = (r1, r2, r3) := by
          unfold network_Next.f
          rw [if_pos ⟨i7, i8⟩]
          exact ⟨_, _, _, rfl, rfl⟩
        obtain ⟨r1, r2, r3, hx1, hx2⟩ := HX'
        have HXX := Aside0.mk hx1
        have HX2 := Aside0.mk hx2
        clear hx1 hx2
        have HT := Aside0.mk (show takeS a1 t late ⟨a0, a1, a2, a3, a4, a5, a6, a7⟩ = match Net.next ⟨a0, a1, a2, a3, a4, a5, a6, a7⟩ t with | some d => if d + a4 ≤ Net.encN (late a2) then some d else none | none => none from by unfold takeS; rw [if_pos rfl]; rfl)
        go_wp2_with (go_at_call 96; refine (network_Next.calls _ _ _ _ _ _ _ _ _ _ _ _ _ HXX.out).mono ?_; rintro en w2 ⟨rfl, hb⟩; have L1 := Aside0.mk (blk_below (blk_new wr (.cells (legV ⟨a0, a1, a2, a3, a4, a5, a6, a7⟩) 23)) hb); have M1 := Aside0.mk (blk_below (blk_alloc N1.out _) hb); have M2 := Aside0.mk (blk_below (blk_alloc N2.out _) hb); have M3 := Aside0.mk (blk_below (blk_alloc N3.out _) hb); have M4 := Aside0.mk (blk_below (blk_alloc N4.out _) hb); have MP := Aside0.mk ((NP.out.alloc _).below hb); have MB := Aside0.mk (below_then (NB.out.alloc NB.out.size _) (by have := NB.out.size; simp; omega) hb); clear hb)
        clear g0 g1 g2 g3 g4 g5 g6 g7
        obtain ⟨w3, hw3⟩ : ∃ w3, w3 = w2.alloc (.cells #[.int .i64 r1, .int .i64 r2] 114) := ⟨_, rfl⟩
        have K0 : Aside0 (w3.heap[w2.heap.size]? = some (.cells #[.int .i64 r1, .int .i64 r2] 114 (0, 0))) := ⟨by rw [hw3]; exact blk_new _ _⟩
        have K1 : Aside0 (w3.heap[wr.heap.size]? = some (.cells (legV ⟨a0, a1, a2, a3, a4, a5, a6, a7⟩) 23 (0, 0))) := ⟨by rw [hw3]; exact blk_alloc L1.out _⟩
        have K2 : Aside0 (w3.heap[w.heap.size]? = some (.cells #[.map (some bm), .int .i64 many, .slice (some ad) sl.length cl] 106 (0, 0))) := ⟨by rw [hw3]; exact blk_alloc M1.out _⟩
        have K3 : Aside0 (w3.heap[w.heap.size + 1]? = some (.cells (rowC (rowOf Net.encN pl late)) 112 (0, 0))) := ⟨by rw [hw3]; exact blk_alloc M2.out _⟩
        have K4 : Aside0 (w3.heap[w.heap.size + 1 + 1]? = some (.cells (legV zLeg) 23 (0, 0))) := ⟨by rw [hw3]; exact blk_alloc M3.out _⟩
        have K5 : Aside0 (w3.heap[w.heap.size + 1 + 1 + 1]? = some (.cells #[.int .i64 0, .int .i64 0] 114 (0, 0))) := ⟨by rw [hw3]; exact blk_alloc M4.out _⟩
        have K6 : Aside0 (PosIs w3 bm n pl) := ⟨by rw [hw3]; exact MP.out.alloc _⟩
        have K7 : Aside0 (Below w.heap.size w w3) := ⟨by rw [hw3]; exact MB.out.alloc MB.out.size _⟩
        have b1 := Aside0.mk (blk_lt M3.out)
        have b2 := Aside0.mk (blk_lt M4.out)
        have b3 := Aside0.mk (blk_lt N3.out)
        have b4 := Aside0.mk (blk_lt N4.out)
        rw [← hw3]
        clear hw3 L1 M1 M2 M3 M4 MP MB N1 N2 N3 N4 NP NB
        have c34 : w3.cell? ⟨w2.heap.size, 1, none⟩ = some (.int .i64 r2) := (blk_cell K0.out 1).trans rfl
        have c36 : w3.cell? ⟨w.heap.size, 0, none⟩ = some (.map (some bm)) := (blk_cell K2.out 0).trans rfl
        have c38 : w3.cell? ⟨wr.heap.size, 2, none⟩ = some (.int .i64 a2) := (blk_cell K1.out 2).trans rfl
        obtain ⟨q0, q1, q2⟩ := posOf_lt hm2
        have hat := rowOf_at (ef := Net.encN) hm2 h50 late
        have l2 := fun k => MapIs.run (K6.out.map.drewN k) i2
        have hqq : posOf pl a2 = ((posOf pl a2).toNat : Int) := by omega
        rw [hqq] at l2
        have hq50 : (posOf pl a2).toNat < 50 := by omega
        have c41 : w3.cell? ⟨w.heap.size + 1, (posOf pl a2).toNat, none⟩ = some (.int .i64 (Net.encN (late a2))) := by rw [← hat]; exact (blk_cell K3.out _).trans (rowC_get _ _ (by rw [hl0]; exact hq50))
        clear hat hqq q0 q1 q2
        generalize (posOf pl a2).toNat = q at l2 c41 hq50
        generalize Net.encN (late a2) = lv at c41 HT
        cases hnx : Net.next ⟨a0, a1, a2, a3, a4, a5, a6, a7⟩ t with
        | none =>
          rw [hnx] at HX2 HT
          obtain ⟨rfl, rfl, rfl⟩ : r1 = 0 ∧ r2 = 0 ∧ r3 = false := by have := HX2.out; simp only [Prod.mk.injEq] at this; exact ⟨this.1.symm, this.2.1.symm, this.2.2.symm⟩
          have ht : takeS a1 t late ⟨a0, a1, a2, a3, a4, a5, a6, a7⟩ = none := HT.out
          rw [ht, Option.map_none] at HSN
          clear ht hnx
          go_wp2_with fail
          go_quiet (fail)
          go_wp2
          go_roundw
          case rel =>
            have e1 : (x + 1).toNat = x.toNat + 1 := by omega
            refine ⟨x + 1, by go_num, ⟨by omega⟩, ⟨by rw [e1]; exact HSN.out⟩, ⟨K2.out⟩, ⟨K3.out⟩, ⟨K4.out⟩, ⟨K5.out⟩, ⟨K6.out.below (pw_below_drewN (Below.refl _ _) _)⟩, ⟨pw_below_drewN K7.out _⟩⟩
          case measure => simp [intOf]; omega
        | some d =>
          rw [hnx] at HX2 HT
          dsimp only at HX2 HT
          obtain ⟨rfl, rfl, rfl⟩ : r1 = d ∧ r2 = d + a4 ∧ r3 = true := by have := HX2.out; simp only [Prod.mk.injEq] at this; exact ⟨this.1.symm, this.2.1.symm, this.2.2.symm⟩
          clear hnx HX2
          by_cases hc : r1 + a4 ≤ lv
          · have ht : takeS a1 t late ⟨a0, a1, a2, a3, a4, a5, a6, a7⟩ = some r1 := by rw [HT.out, if_pos hc]
            rw [ht, Option.map_some] at HSN
            obtain rfl : po = some (⟨a0, a1, a2, a3, a4, a5, a6, a7⟩, r1) := by rw [HPO.out, HD.out]; exact pickS_some _ _ _ _ _ _ HSN.out
            clear ht
            have d0 : w3.cell? ⟨wr.heap.size, 0, none⟩ = some (.int .i64 a0) := (blk_cell K1.out 0).trans rfl
            have d1 : w3.cell? ⟨wr.heap.size, 1, none⟩ = some (.int .i64 a1) := (blk_cell K1.out 1).trans rfl
            have d3 : w3.cell? ⟨wr.heap.size, 3, none⟩ = some (.int .i64 a3) := (blk_cell K1.out 3).trans rfl
            have d4 : w3.cell? ⟨wr.heap.size, 4, none⟩ = some (.int .i64 a4) := (blk_cell K1.out 4).trans rfl
            have d5 : w3.cell? ⟨wr.heap.size, 5, none⟩ = some (.int .i64 a5) := (blk_cell K1.out 5).trans rfl
            have d6 : w3.cell? ⟨wr.heap.size, 6, none⟩ = some (.int .i64 a6) := (blk_cell K1.out 6).trans rfl
            have d7 : w3.cell? ⟨wr.heap.size, 7, none⟩ = some (.int .u8 a7) := (blk_cell K1.out 7).trans rfl
            have c33 : w3.cell? ⟨w2.heap.size, 0, none⟩ = some (.int .i64 r1) := (blk_cell K0.out 0).trans rfl
            go_wp2_with fail
            go_quiet (fail)
            go_wp2_with fail
            clear l2
            have y0 : w3.cell? ⟨w.heap.size + 1 + 1, 0, none⟩ = some (.int .i64 0) := (blk_cell K4.out 0).trans rfl
            have y1 : w3.cell? ⟨w.heap.size + 1 + 1, 1, none⟩ = some (.int .i64 0) := (blk_cell K4.out 1).trans rfl
            have y2 : w3.cell? ⟨w.heap.size + 1 + 1, 2, none⟩ = some (.int .i64 0) := (blk_cell K4.out 2).trans rfl
            have y3 : w3.cell? ⟨w.heap.size + 1 + 1, 3, none⟩ = some (.int .i64 0) := (blk_cell K4.out 3).trans rfl
            have y4 : w3.cell? ⟨w.heap.size + 1 + 1, 4, none⟩ = some (.int .i64 0) := (blk_cell K4.out 4).trans rfl
            have y5 : w3.cell? ⟨w.heap.size + 1 + 1, 5, none⟩ = some (.int .i64 0) := (blk_cell K4.out 5).trans rfl
            have y6 : w3.cell? ⟨w.heap.size + 1 + 1, 6, none⟩ = some (.int .i64 0) := (blk_cell K4.out 6).trans rfl
            have y7 : w3.cell? ⟨w.heap.size + 1 + 1, 7, none⟩ = some (.int .u8 0) := (blk_cell K4.out 7).trans rfl
            have x0 : w3.cell? ⟨w.heap.size + 1 + 1 + 1, 0, none⟩ = some (.int .i64 0) := (blk_cell K5.out 0).trans rfl
            have x1 : w3.cell? ⟨w.heap.size + 1 + 1 + 1, 1, none⟩ = some (.int .i64 0) := (blk_cell K5.out 1).trans rfl
            have f3 := blk_frozen K4.out
            have f4 := blk_frozen K5.out
            have n1 : w2.heap.size ≠ w.heap.size + 1 + 1 := by have := b1.out; omega
            have n2 : w2.heap.size ≠ w.heap.size + 1 + 1 + 1 := by have := b2.out; omega
            have n3 : wr.heap.size ≠ w.heap.size + 1 + 1 := by have := b3.out; omega
            have n4 : wr.heap.size ≠ w.heap.size + 1 + 1 + 1 := by have := b4.out; omega
            have n1' := n1.symm
            have n2' := n2.symm
            have n3' := n3.symm
            have n4' := n4.symm
            go_region
            go_wp2
            have hP := fun k => put10 (w := w3.drewN k) (g8 := w.heap.size + 1 + 1) (g9 := w.heap.size + 1 + 1 + 1) (by omega) K4.out K5.out a0 a1 a2 a3 a4 a5 a6 a7 r1 (r1 + a4) rfl
            exact bodyPost_ret (results65 _ _ (w.heap.size + 1 + 1) (w.heap.size + 1 + 1 + 1) ⟨a0, a1, a2, a3, a4, a5, a6, a7⟩ r1 (r1 + a4) rfl rfl (hP _).1 (hP _).2.1) rfl ⟨rfl, (hP _).2.2 _ _ (pw_below_drewN K7.out _) (by omega) (by omega)⟩
          · have ht : takeS a1 t late ⟨a0, a1, a2, a3, a4, a5, a6, a7⟩ = none := by rw [HT.out, if_neg hc]
            rw [ht, Option.map_none] at HSN
            have hc' := decide_eq_false hc
            clear ht
            go_wp2_with fail
            go_quiet (fail)
            go_wp2
            go_roundw
            case rel =>
              have e1 : (x + 1).toNat = x.toNat + 1 := by omega
              refine ⟨x + 1, by go_num, ⟨by omega⟩, ⟨by rw [e1]; exact HSN.out⟩, ⟨K2.out⟩, ⟨K3.out⟩, ⟨K4.out⟩, ⟨K5.out⟩, ⟨K6.out.below (pw_below_drewN (Below.refl _ _) _)⟩, ⟨pw_below_drewN K7.out _⟩⟩
            case measure => simp [intOf]; omega
      · have ht : takeS p t late ⟨a0, a1, a2, a3, a4, a5, a6, a7⟩ = none := by unfold takeS; rw [if_neg hp]
        rw [ht, Option.map_none] at HSN
        go_wp2
        go_roundw
        case rel =>
          have e1 : (x + 1).toNat = x.toNat + 1 := by omega
          refine ⟨x + 1, by go_num, ⟨by omega⟩, ⟨by rw [e1]; exact HSN.out⟩, ⟨blk_alloc N1.out _⟩, ⟨blk_alloc N2.out _⟩, ⟨blk_alloc N3.out _⟩, ⟨blk_alloc N4.out _⟩, ⟨NP.out.alloc _⟩, ⟨NB.out.alloc NB.out.size _⟩⟩
        case measure => simp [intOf]; omega
    · obtain rfl : x = (sl.length : Int) := by have := HX.out; omega
      rw [Int.toNat_natCast, List.take_length] at HN
      obtain rfl : po = none := HPO.out.trans HN.out
      have y0 : wr.cell? ⟨w.heap.size + 1 + 1, 0, none⟩ = some (.int .i64 0) := (blk_cell N3.out 0).trans rfl
      have y1 : wr.cell? ⟨w.heap.size + 1 + 1, 1, none⟩ = some (.int .i64 0) := (blk_cell N3.out 1).trans rfl
      have y2 : wr.cell? ⟨w.heap.size + 1 + 1, 2, none⟩ = some (.int .i64 0) := (blk_cell N3.out 2).trans rfl
      have y3 : wr.cell? ⟨w.heap.size + 1 + 1, 3, none⟩ = some (.int .i64 0) := (blk_cell N3.out 3).trans rfl
      have y4 : wr.cell? ⟨w.heap.size + 1 + 1, 4, none⟩ = some (.int .i64 0) := (blk_cell N3.out 4).trans rfl
      have y5 : wr.cell? ⟨w.heap.size + 1 + 1, 5, none⟩ = some (.int .i64 0) := (blk_cell N3.out 5).trans rfl
      have y6 : wr.cell? ⟨w.heap.size + 1 + 1, 6, none⟩ = some (.int .i64 0) := (blk_cell N3.out 6).trans rfl
      have y7 : wr.cell? ⟨w.heap.size + 1 + 1, 7, none⟩ = some (.int .u8 0) := (blk_cell N3.out 7).trans rfl
      have x0 : wr.cell? ⟨w.heap.size + 1 + 1 + 1, 0, none⟩ = some (.int .i64 0) := (blk_cell N4.out 0).trans rfl
      have x1 : wr.cell? ⟨w.heap.size + 1 + 1 + 1, 1, none⟩ = some (.int .i64 0) := (blk_cell N4.out 1).trans rfl
      have f3 := blk_frozen N3.out
      have f4 := blk_frozen N4.out
      go_wp2
      have hP := put10 (w := wr) (g8 := w.heap.size + 1 + 1) (g9 := w.heap.size + 1 + 1 + 1) (by omega) N3.out N4.out 0 0 0 0 0 0 0 0 0 0 rfl
      exact bodyPost_ret (results65 _ _ (w.heap.size + 1 + 1) (w.heap.size + 1 + 1 + 1) zLeg 0 0 rfl rfl hP.1 hP.2.1) rfl ⟨rfl, hP.2.2 _ _ NB.out (by omega) (by omega)⟩
end Go.Proofs.Ytdpadeklociinaa.PA
