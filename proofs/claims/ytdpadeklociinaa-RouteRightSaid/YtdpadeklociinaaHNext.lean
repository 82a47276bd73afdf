import Derived.Test.YtdpadeklociinaaHFrom
import Derived.RangeFuncNested
import Derived.RangeFuncBound
import Derived.RangeFuncCalls
import Derived.RangeFuncLeaves
import Derived.Shelf.Abstract
import Derived.Shelf.RegionOpen
import Derived.OwnWalkIn
import Derived.TacticsInMore
import Derived.LoopNIn
import Derived.LoopIn
set_option linter.unusedVariables false
namespace Go.Proofs.Ytdpadeklociinaa.PA
open Go.RowKit Go.Maps Go.Proofs.YtdpadeklociinaaW.PrintWords Go.Proofs.YtdpadeklociinaaW.PrintLast Go.Proofs.YtdpadeklociinaaW.PrintMore Go.Proofs.Ytdpadeklociinaa

attribute [local go_sem] Oper.semAt_some

theorem own_blk (B g : Nat) {β : Type} (cs : β → Array Value) (t : TypeId) : OwnFrom B (fun (x : β) W => W.heap[g]? = some (.cells (cs x) t (0, 0))) := fun s A B' row hs hg hr => by
  refine (hg.block g (blk_lt hs) (fun e => ?_)).trans hs
  obtain ⟨_, o, ho, hc⟩ := hr g e.symm
  rw [hs] at ho
  injection ho with ho
  subst ho
  simp [Obj.isCells] at hc

theorem results96 (tmps : Array Value) (W : World) (g4 g5 : Nat) (a b : Int) (c : Bool) (h4 : tmps.getD 4 undef = .pointer (some ⟨g4, 0, none⟩)) (h5 : tmps.getD 5 undef = .pointer (some ⟨g5, 0, none⟩))
    (b4 : W.heap[g4]? = some (.cells #[.int .i64 a, .int .i64 b] 114 (0, 0))) (b5 : W.heap[g5]? = some (.cells #[.bool c] 4 (0, 0))) :
    (results Try.f96 tmps).run Try.prog W = .ok (.tuple #[.agg #[.int .i64 a, .int .i64 b], .bool c]) W := by
  have h4' : tmps[4]?.getD undef = .pointer (some ⟨g4, 0, none⟩) := by simpa using h4
  have h5' : tmps[5]?.getD undef = .pointer (some ⟨g5, 0, none⟩) := by simpa using h5
  have c5 : W.cell? ⟨g5, 0, none⟩ = some (.bool c) := (blk_cell b5 0).trans rfl
  have l5 : (loadVar 4 ⟨g5, 0, none⟩).run Try.prog W = .ok (.bool c) W := by simp [loadVar, go_sem, c5]
  have hr : Try.f96.results = #[.cell 4 114, .cell 5 4] := rfl
  have l4 := run_loadVar_row W g4 114 114 #[.int .i64 a, .int .i64 b] (0, 0) _ b4 Try.underlying114 rfl (by kernel_rfl)
  simp [results, h4', h5', asAddr, l4, l5]

set_option maxRecDepth 100000 in
set_option maxHeartbeats 4000000 in
theorem network_Next.calls (a0_0 : Int) (a0_1 : Int) (a0_2 : Int) (a0_3 : Int) (a0_4 : Int) (a0_5 : Int) (a0_6 : Int) (a0_7 : Int) (a1 : Int) (r1 : Int) (r2 : Int) (r3 : Bool) (w : World) (h : network_Next.f a0_0 a0_1 a0_2 a0_3 a0_4 a0_5 a0_6 a0_7 a1 = some (r1, r2, r3)) :
    Calls Try.prog 96 #[.agg #[.int .i64 a0_0, .int .i64 a0_1, .int .i64 a0_2, .int .i64 a0_3, .int .i64 a0_4, .int .i64 a0_5, .int .i64 a0_6, .int .u8 a0_7], .int .i64 a1] w fun e w' => e = .returned (.tuple #[.agg #[.int .i64 r1, .int .i64 r2], .bool r3]) ∧ Below w.heap.size w w' := by
  unfold network_Next.f at h
  split at h
  case isFalse => cases h
  case isTrue hb =>
  obtain ⟨hb0, hb1⟩ := hb
  have H := Aside0.mk (Option.some.inj h)
  clear h
  have hB2 : ∀ w2, Below (((w.alloc (.cells #[.int .i64 a0_0, .int .i64 a0_1, .int .i64 a0_2, .int .i64 a0_3, .int .i64 a0_4, .int .i64 a0_5, .int .i64 a0_6, .int .u8 a0_7] 23)).alloc (.cells #[.int .i64 0, .int .i64 0] 114)).alloc (.cells #[.bool false] 4)).heap.size (((w.alloc (.cells #[.int .i64 a0_0, .int .i64 a0_1, .int .i64 a0_2, .int .i64 a0_3, .int .i64 a0_4, .int .i64 a0_5, .int .i64 a0_6, .int .u8 a0_7] 23)).alloc (.cells #[.int .i64 0, .int .i64 0] 114)).alloc (.cells #[.bool false] 4)) w2 →
      w2.heap[w.heap.size]? = some (.cells #[.int .i64 a0_0, .int .i64 a0_1, .int .i64 a0_2, .int .i64 a0_3, .int .i64 a0_4, .int .i64 a0_5, .int .i64 a0_6, .int .u8 a0_7] 23 (0, 0)) ∧ w2.heap[w.heap.size + 1]? = some (.cells #[.int .i64 0, .int .i64 0] 114 (0, 0)) ∧ w2.heap[w.heap.size + 1 + 1]? = some (.cells #[.bool false] 4 (0, 0)) ∧ Below w.heap.size w w2 := by
    intro w2 hb
    refine ⟨blk_below (blk_alloc (blk_alloc (blk_new w _) _) _) hb, blk_below ?_ hb, blk_below ?_ hb, below_then ((((Below.refl _ _).alloc (Nat.le_refl _) _).alloc (by simp) _).alloc (by simp; omega) _) (by simp; omega) hb⟩
    · have := blk_alloc (blk_new (w.alloc (.cells #[.int .i64 a0_0, .int .i64 a0_1, .int .i64 a0_2, .int .i64 a0_3, .int .i64 a0_4, .int .i64 a0_5, .int .i64 a0_6, .int .u8 a0_7] 23)) (.cells #[.int .i64 0, .int .i64 0] 114)) (.cells #[.bool false] 4)
      simpa using this
    · have := blk_new ((w.alloc (.cells #[.int .i64 a0_0, .int .i64 a0_1, .int .i64 a0_2, .int .i64 a0_3, .int .i64 a0_4, .int .i64 a0_5, .int .i64 a0_6, .int .u8 a0_7] 23)).alloc (.cells #[.int .i64 0, .int .i64 0] 114)) (.cells #[.bool false] 4)
      simpa using this
  have HBW := Aside0.mk hB2
  clear hB2
  cases hr : Net.Leg.right ⟨a0_0, a0_1, a0_2, a0_3, a0_4, a0_5, a0_6, a0_7⟩ with
  | false =>
    have HR := Aside0.mk (show network_Right.f a0_0 a0_1 a0_2 a0_3 a0_4 a0_5 a0_6 a0_7 = some false from by unfold network_Right.f; rw [if_pos ⟨hb0, hb1⟩, hr])
    have hn : Net.next ⟨a0_0, a0_1, a0_2, a0_3, a0_4, a0_5, a0_6, a0_7⟩ a1 = none := by unfold Net.next; rw [if_neg (by rw [hr]; simp)]
    rw [hn] at H
    obtain ⟨rfl, rfl, rfl⟩ : r1 = 0 ∧ r2 = 0 ∧ r3 = false := by have := H.out; simp only [Prod.mk.injEq] at this; exact ⟨this.1.symm, this.2.1.symm, this.2.2.symm⟩
    clear hr hn
    go_enter Try.func96, Try.ntmps96
    go_wp2_with (go_at_call 85; refine (network_Right.calls _ _ _ _ _ _ _ _ _ _ HR.out).mono ?_; rintro en w2 ⟨rfl, hb2⟩; obtain ⟨b1, b2, b3, b4⟩ := HBW.out w2 hb2; have B1 := Aside0.mk b1; have B2 := Aside0.mk b2; have B3 := Aside0.mk b3; have B4 := Aside0.mk b4; clear hb2 b1 b2 b3 b4; have y0 := (blk_cell B2.out 0).trans rfl; have y1 := (blk_cell B2.out 1).trans rfl; have y2 := (blk_cell B3.out 0).trans rfl; have f0 := blk_frozen B2.out 0; have f1 := blk_frozen B2.out 1; have f2 := blk_frozen B3.out 0)
    refine bodyPost_ret (results96 _ _ (w.heap.size + 1) (w.heap.size + 1 + 1) 0 0 false rfl rfl ?_ ?_) rfl ⟨rfl, ?_⟩
    · exact blk_far (blk_put (cs' := #[.int .i64 0, .int .i64 0]) (blk_put (cs' := #[.int .i64 0, .int .i64 0]) B2.out 0 _ rfl) 1 _ rfl) (by simp) _
    · exact blk_put (cs' := #[.bool false]) (blk_far (blk_far B3.out (by simp) _) (by simp) _) 0 _ rfl
    · exact ((B4.out.setCell (by simp) _).setCell (by simp) _).setCell (by simp; omega) _
  | true =>
    have HR := Aside0.mk (show network_Right.f a0_0 a0_1 a0_2 a0_3 a0_4 a0_5 a0_6 a0_7 = some true from by unfold network_Right.f; rw [if_pos ⟨hb0, hb1⟩, hr])
    have hR := (Net.Leg.right_iff _).1 hr
    dsimp only at hR
    obtain ⟨m, hm⟩ : ∃ m : Int, m = max (Net.near a1) 0 := ⟨_, rfl⟩
    have hm0 : 0 ≤ m ∧ m ≤ 1051899839 := by rw [hm]; unfold Net.near; omega
    obtain ⟨hm0, hm1⟩ := hm0
    have hn : Net.next ⟨a0_0, a0_1, a0_2, a0_3, a0_4, a0_5, a0_6, a0_7⟩ a1 = (deps ⟨a0_0, a0_1, a0_2, a0_3, a0_4, a0_5, a0_6, a0_7⟩ (730485 - (m + a0_5) / 1440).toNat ((m + a0_5) / 1440)).find? (fun d => decide (m + a0_5 ≤ d)) := by
      unfold Net.next; rw [if_pos hr]; dsimp only; rw [← hm, deps_find]
    rw [hn] at H
    have hc0 : 0 ≤ a0_5 := by omega
    have hc1 : a0_5 ≤ 10080 := by omega
    clear hr hn hR
    have hw1 : IntKind.i64.wrap (m + a0_5) = m + a0_5 := by rw [IntKind.wrap_i64]; omega
    have HN : ∀ W, Calls Try.prog 111 #[.int .i64 a1] W fun en w' => en = .returned (.int .i64 (Net.near a1)) ∧ W = w' := fun W => near_same a1 W
    have hmx : (if Net.near a1 < 0 then 0 else Net.near a1) = m := by rw [hm]; by_cases hq : Net.near a1 < 0 <;> simp [hq] <;> omega
    generalize Net.near a1 = nr at HN hmx hm
    have HNs := Aside0.mk HN
    have HM := Aside0.mk hmx
    have HW := Aside0.mk hw1
    clear HN hmx hm hw1
    refine callsIn_wide.1 (callsIn_of_wp_marks (n := 4) Try.func96 rfl trivial ?_ rfl)
    simp only [Try.ntmps96, List.size_toArray, List.length_cons, List.length_nil, Nat.reduceAdd, Nat.reduceSub, Array.replicate_succ, Array.replicate_zero, List.push_toArray, List.append_toArray, List.nil_append, List.cons_append]
    refine wpIn_wide.2 ?_
    go_wp2_with (go_at_call 85; refine (network_Right.calls _ _ _ _ _ _ _ _ _ _ HR.out).mono ?_; rintro en w2 ⟨rfl, hb2⟩; obtain ⟨b1, b2, b3, b4⟩ := HBW.out w2 hb2; have B1 := Aside0.mk b1; have B2 := Aside0.mk b2; have B3 := Aside0.mk b3; have B4 := Aside0.mk b4; clear hb2 b1 b2 b3 b4; have y5 : w2.cell? ⟨w.heap.size, 5, none⟩ = some (.int .i64 a0_5) := (blk_cell B1.out 5).trans rfl; have z0 : w.heap.size < w2.heap.size := blk_lt B1.out; have z1 : w.heap.size + 1 < w2.heap.size := blk_lt B2.out; have z2 : w.heap.size + 1 + 1 < w2.heap.size := blk_lt B3.out)
    refine Code.wp_mono (Q := Exit.then (fun a' w' => w' = (w2.alloc (.cells #[.int .i64 (m + a0_5)] 3)).drew ∧ ∃ u12 u13 u14 u15 u16 u17 : Value, a' = { tmps := #[.agg #[.int .i64 a0_0, .int .i64 a0_1, .int .i64 a0_2, .int .i64 a0_3, .int .i64 a0_4, .int .i64 a0_5, .int .i64 a0_6, .int .u8 a0_7], .int .i64 a1, .pointer (some ⟨w.heap.size, 0, none⟩), undef, .pointer (some ⟨w.heap.size + 1, 0, none⟩), .pointer (some ⟨w.heap.size + 1 + 1, 0, none⟩), .pointer (some ⟨w2.heap.size, 0, none⟩), undef, .agg #[.int .i64 a0_0, .int .i64 a0_1, .int .i64 a0_2, .int .i64 a0_3, .int .i64 a0_4, .int .i64 a0_5, .int .i64 a0_6, .int .u8 a0_7], .bool true, .bool false, undef, u12, u13, u14, u15, u16, u17, undef, undef, undef, undef, undef, undef, undef, undef, undef, undef, undef], defers := [] }) (fun _ _ _ => False)) ?_ ?_
    rotate_left
    · go_region_with (go_at_call 111; refine (HNs.out _).mono ?_; rintro en w' ⟨rfl, rfl⟩)
      all_goals (first | exact ⟨by rw [HM.out, HW.out], _, _, _, _, _, _, rfl⟩)
    · rintro en a' w' hq
      cases en with
      | normal =>
        obtain ⟨rfl, u12, u13, u14, u15, u16, u17, rfl⟩ := hq
        have g0 := Aside0.mk (blk_alloc B1.out (.cells #[.int .i64 (m + a0_5)] 3))
        have g1 := Aside0.mk (blk_alloc B2.out (.cells #[.int .i64 (m + a0_5)] 3))
        have g2 := Aside0.mk (blk_alloc B3.out (.cells #[.int .i64 (m + a0_5)] 3))
        have g3 := Aside0.mk (blk_new w2 (.cells #[.int .i64 (m + a0_5)] 3))
        have g4 := Aside0.mk (B4.out.alloc B4.out.size (.cells #[.int .i64 (m + a0_5)] 3))
        obtain ⟨w3, hw3⟩ : ∃ w3, w3 = (w2.alloc (.cells #[.int .i64 (m + a0_5)] 3)).drew := ⟨_, rfl⟩
        obtain ⟨gw, hgw⟩ : ∃ gw, gw = w2.heap.size := ⟨_, rfl⟩
        have G0 : Aside0 (w3.heap[w.heap.size]? = some (.cells #[.int .i64 a0_0, .int .i64 a0_1, .int .i64 a0_2, .int .i64 a0_3, .int .i64 a0_4, .int .i64 a0_5, .int .i64 a0_6, .int .u8 a0_7] 23 (0, 0))) := ⟨by rw [hw3]; exact g0.out⟩
        have G1 : Aside0 (w3.heap[w.heap.size + 1]? = some (.cells #[.int .i64 0, .int .i64 0] 114 (0, 0))) := ⟨by rw [hw3]; exact g1.out⟩
        have G2 : Aside0 (w3.heap[w.heap.size + 1 + 1]? = some (.cells #[.bool false] 4 (0, 0))) := ⟨by rw [hw3]; exact g2.out⟩
        have G3 : Aside0 (w3.heap[gw]? = some (.cells #[.int .i64 (m + a0_5)] 3 (0, 0))) := ⟨by rw [hw3, hgw]; exact g3.out⟩
        have G4 : Aside0 (Below w.heap.size w w3) := ⟨by rw [hw3]; exact g4.out.drew⟩
        have GN : Aside0 (w.heap.size + 1 + 1 < gw) := ⟨by rw [hgw]; exact z2⟩
        rw [← hw3, ← hgw]
        clear g0 g1 g2 g3 g4 hw3 hgw B1 B2 B3 B4 y5 z0 z1 z2
        have x0 : w3.cell? ⟨w.heap.size, 0, none⟩ = some (.int .i64 a0_0) := (blk_cell G0.out 0).trans rfl
        have x1 : w3.cell? ⟨w.heap.size, 1, none⟩ = some (.int .i64 a0_1) := (blk_cell G0.out 1).trans rfl
        have x2 : w3.cell? ⟨w.heap.size, 2, none⟩ = some (.int .i64 a0_2) := (blk_cell G0.out 2).trans rfl
        have x3 : w3.cell? ⟨w.heap.size, 3, none⟩ = some (.int .i64 a0_3) := (blk_cell G0.out 3).trans rfl
        have x4 : w3.cell? ⟨w.heap.size, 4, none⟩ = some (.int .i64 a0_4) := (blk_cell G0.out 4).trans rfl
        have x5 : w3.cell? ⟨w.heap.size, 5, none⟩ = some (.int .i64 a0_5) := (blk_cell G0.out 5).trans rfl
        have x6 : w3.cell? ⟨w.heap.size, 6, none⟩ = some (.int .i64 a0_6) := (blk_cell G0.out 6).trans rfl
        have x7 : w3.cell? ⟨w.heap.size, 7, none⟩ = some (.int .u8 a0_7) := (blk_cell G0.out 7).trans rfl
        have xg : w3.cell? ⟨gw, 0, none⟩ = some (.int .i64 (m + a0_5)) := (blk_cell G3.out 0).trans rfl
        have hma : 0 ≤ m + a0_5 := by omega
        have hmb : m + a0_5 ≤ 1100000000 := by omega
        simp only [Exit.then]
        go_wp2_with (go_at_call 112; refine (from_calls ⟨a0_0, a0_1, a0_2, a0_3, a0_4, a0_5, a0_6, a0_7⟩ ((m + a0_5) / 1440) _).mono ?_; rintro en w4 ⟨rfl, rfl⟩)
        have q0 := Aside0.mk (blk_alloc (blk_new w3 (.cells (legV (⟨a0_0, a0_1, a0_2, a0_3, a0_4, a0_5, a0_6, a0_7⟩ : S23)) 23)) (.cells #[.int .i64 ((m + a0_5) / 1440)] 3))
        have q1 : Aside0 (((w3.alloc (.cells (legV (⟨a0_0, a0_1, a0_2, a0_3, a0_4, a0_5, a0_6, a0_7⟩ : S23)) 23)).alloc (.cells #[.int .i64 ((m + a0_5) / 1440)] 3)).heap[w3.heap.size + 1]? = some (.cells #[.int .i64 ((m + a0_5) / 1440)] 3 (0, 0))) := ⟨by have := blk_new (w3.alloc (.cells (legV (⟨a0_0, a0_1, a0_2, a0_3, a0_4, a0_5, a0_6, a0_7⟩ : S23)) 23)) (.cells #[.int .i64 ((m + a0_5) / 1440)] 3); simpa using this⟩
        have q2 := Aside0.mk (blk_alloc (blk_alloc G1.out (.cells (legV (⟨a0_0, a0_1, a0_2, a0_3, a0_4, a0_5, a0_6, a0_7⟩ : S23)) 23)) (.cells #[.int .i64 ((m + a0_5) / 1440)] 3))
        have q3 := Aside0.mk (blk_alloc (blk_alloc G2.out (.cells (legV (⟨a0_0, a0_1, a0_2, a0_3, a0_4, a0_5, a0_6, a0_7⟩ : S23)) 23)) (.cells #[.int .i64 ((m + a0_5) / 1440)] 3))
        have q4 := Aside0.mk (blk_alloc (blk_alloc G3.out (.cells (legV (⟨a0_0, a0_1, a0_2, a0_3, a0_4, a0_5, a0_6, a0_7⟩ : S23)) 23)) (.cells #[.int .i64 ((m + a0_5) / 1440)] 3))
        have q5 := Aside0.mk ((G4.out.alloc G4.out.size (.cells (legV (⟨a0_0, a0_1, a0_2, a0_3, a0_4, a0_5, a0_6, a0_7⟩ : S23)) 23)).alloc (by have := G4.out.size; simp; omega) (.cells #[.int .i64 ((m + a0_5) / 1440)] 3))
        have q6 : Aside0 (w3.heap.size + 1 < ((w3.alloc (.cells (legV (⟨a0_0, a0_1, a0_2, a0_3, a0_4, a0_5, a0_6, a0_7⟩ : S23)) 23)).alloc (.cells #[.int .i64 ((m + a0_5) / 1440)] 3)).heap.size) := ⟨by simp⟩
        obtain ⟨W0, hW0⟩ : ∃ W0, ((w3.alloc (.cells (legV (⟨a0_0, a0_1, a0_2, a0_3, a0_4, a0_5, a0_6, a0_7⟩ : S23)) 23)).alloc (.cells #[.int .i64 ((m + a0_5) / 1440)] 3)) = W0 := ⟨_, rfl⟩
        rw [hW0] at q0 q1 q2 q3 q4 q5 q6 ⊢
        clear hW0 x0 x1 x2 x3 x4 x5 x6 x7 xg G0 G1 G2 G3 G4
        generalize hwant : m + a0_5 = want at q1 q2 q3 q4 q5 q6 hma hmb H ⊢
        clear hwant HW
        refine (wpIn_wide (n := 4)).1 (wpIn_rangeFunc_ownH (F := Fence.wide) rfl (by omega) (gf := 126) (lb := #[.pointer (some ⟨w3.heap.size + 1, 0, none⟩), .pointer (some ⟨w3.heap.size, 0, none⟩)]) rfl trivial (enters_of Try.func126 (by kernel_rfl) rfl)
          (from1_stops 3 (by omega) (w3.heap.size + 1) w3.heap.size W0.heap.size (⟨a0_0, a0_1, a0_2, a0_3, a0_4, a0_5, a0_6, a0_7⟩ : S23) (want / 1440) hb0 hb1 (by omega) (by omega) W0 q6.out (by have := q6.out; omega) (Nat.le_refl _) q1.out q0.out) belowK_t (belowK_b (by omega)) (Below.refl _ _) (fun _ => rfl)
          (fun pre W => ((((∀ x ∈ pre, ¬ want ≤ x) ∧ W.heap[w.heap.size + 1]? = some (.cells #[.int .i64 0, .int .i64 0] 114 (0, 0))) ∧ W.heap[w.heap.size + 1 + 1]? = some (.cells #[.bool false] 4 (0, 0))) ∧ W.heap[gw]? = some (.cells #[.int .i64 want] 3 (0, 0))) ∧ Below w.heap.size W0 W)
          (fun c pre W => (c = .ret ∧ ∃ p0 x, (pre = p0 ++ [x] ∧ (∀ y ∈ p0, ¬ want ≤ y) ∧ want ≤ x) ∧ W.heap[w.heap.size + 1]? = some (.cells #[.int .i64 x, .int .i64 (x + a0_4)] 114 (0, 0)) ∧ W.heap[w.heap.size + 1 + 1]? = some (.cells #[.bool true] 4 (0, 0))) ∧ Below w.heap.size W0 W)
          (OwnFrom.and (OwnFrom.and (OwnFrom.and (OwnFrom.and (ownFrom_pure _ _) (own_blk _ _ _ _)) (own_blk _ _ _ _)) (own_blk _ _ _ _)) (ownFrom_below (q5.out.size) (q5.out.size)))
          (fun c => OwnFrom.and (fun s A B row hs hg hr => by
            obtain ⟨hc, p0, x, hx, h1, h2⟩ := hs
            exact ⟨hc, p0, x, hx, own_blk _ _ (fun (_ : Unit) => #[.int .i64 x, .int .i64 (x + a0_4)]) 114 () A B row h1 hg hr, own_blk _ _ (fun (_ : Unit) => #[.bool true]) 4 () A B row h2 hg hr⟩) (ownFrom_below (q5.out.size) (q5.out.size)))
          ⟨⟨⟨⟨by simp, q2.out⟩, q3.out⟩, q4.out⟩, Below.refl _ _⟩
          (fun x a' W => ∃ Bx, W.heap[Bx]? = some (.cells #[.int .i64 x, .int .i64 (x + a0_4)] 114 (0, 0)) ∧ a' = { tmps := #[.agg #[.int .i64 a0_0, .int .i64 a0_1, .int .i64 a0_2, .int .i64 a0_3, .int .i64 a0_4, .int .i64 a0_5, .int .i64 a0_6, .int .u8 a0_7], .int .i64 a1, .pointer (some ⟨w.heap.size, 0, none⟩), undef, .pointer (some ⟨w.heap.size + 1, 0, none⟩), .pointer (some ⟨w.heap.size + 1 + 1, 0, none⟩), .pointer (some ⟨gw, 0, none⟩), .pointer (some ⟨Bx, 0, none⟩), .agg #[.int .i64 a0_0, .int .i64 a0_1, .int .i64 a0_2, .int .i64 a0_3, .int .i64 a0_4, .int .i64 a0_5, .int .i64 a0_6, .int .u8 a0_7], .bool true, .bool false, undef, u12, u13, u14, u15, u16, u17, .agg #[.int .i64 a0_0, .int .i64 a0_1, .int .i64 a0_2, .int .i64 a0_3, .int .i64 a0_4, .int .i64 a0_5, .int .i64 a0_6, .int .u8 a0_7], .int .i64 want, .int .i64 (want / 1440), .func (.func 126) #[] #[.pointer (some ⟨w3.heap.size + 1, 0, none⟩), .pointer (some ⟨w3.heap.size, 0, none⟩)], .agg #[.int .i64 x, .int .i64 (x + a0_4)], undef, undef, undef, undef, undef, undef], defers := [] })
          (fun x a' _ X Y row hs hg hr => by obtain ⟨Bx, e1, e2⟩ := hs; exact ⟨Bx, own_blk _ _ (fun (_ : Unit) => #[.int .i64 x, .int .i64 (x + a0_4)]) 114 () X Y row e1 hg hr, e2⟩)
          ?assign ?body ?done ?stop)
        case assign =>
          rintro l pre x W K ⟨⟨⟨⟨hp, i1⟩, i2⟩, i3⟩, i4⟩ hK
          have I1 := Aside0.mk i1
          have I2 := Aside0.mk i2
          have I3 := Aside0.mk i3
          have I4 := Aside0.mk i4
          have HP := Aside0.mk hp
          clear i1 i2 i3 i4 hp
          gi_wp2
          exact hK _ _ ((KeepsOthers.alloc _ _).from _) ((Below.refl W0.heap.size W).alloc I4.out.size _) ⟨⟨⟨⟨HP.out, blk_alloc I1.out _⟩, blk_alloc I2.out _⟩, blk_alloc I3.out _⟩, I4.out.alloc (Nat.le_trans q5.out.size I4.out.size) _⟩ ⟨W.heap.size, blk_new W _, rfl⟩
        case body =>
          rintro l pre x a' W hl ⟨r, hr⟩ ⟨⟨⟨⟨hp, i1⟩, i2⟩, i3⟩, i4⟩ ⟨Bx, bX, rfl⟩ hlt
          have I1 := Aside0.mk i1
          have I2 := Aside0.mk i2
          have I3 := Aside0.mk i3
          have I4 := Aside0.mk i4
          have HP := Aside0.mk hp
          have x0 : W.cell? ⟨Bx, 0, none⟩ = some (.int .i64 x) := (blk_cell bX 0).trans rfl
          have x1 : W.cell? ⟨Bx, 1, none⟩ = some (.int .i64 (x + a0_4)) := (blk_cell bX 1).trans rfl
          have xg : W.cell? ⟨gw, 0, none⟩ = some (.int .i64 want) := (blk_cell i3 0).trans rfl
          have x4 : W.cell? ⟨w.heap.size + 1, 0, none⟩ = some (.int .i64 0) := (blk_cell i1 0).trans rfl
          have x5 : W.cell? ⟨w.heap.size + 1, 1, none⟩ = some (.int .i64 0) := (blk_cell i1 1).trans rfl
          have x6 : W.cell? ⟨w.heap.size + 1 + 1, 0, none⟩ = some (.bool false) := (blk_cell i2 0).trans rfl
          have f4 := blk_frozen i1 0
          have f5 := blk_frozen i1 1
          have f6 := blk_frozen i2 0
          clear i1 i2 i3 i4 hp bX hr
          by_cases hx : want ≤ x
          · gi_wp2
            refine ⟨((KeepsOthers.setCell _ _ _).trans ((KeepsOthers.setCell _ _ _).trans (KeepsOthers.setCell _ _ _))).from _, ⟨rfl, pre, x, ⟨rfl, HP.out, hx⟩, ?_, ?_⟩, ?_⟩
            · exact blk_far (blk_put (cs' := #[.int .i64 x, .int .i64 (x + a0_4)]) (blk_put (cs' := #[.int .i64 x, .int .i64 0]) I1.out 0 _ rfl) 1 _ rfl) (by simp) _
            · exact blk_put (cs' := #[.bool true]) (blk_far (blk_far I2.out (by simp) _) (by simp) _) 0 _ rfl
            · exact ((I4.out.setCell (by simp) _).setCell (by simp) _).setCell (by simp; omega) _
          · gi_wp2
            refine ⟨KeepsFrom.refl _ _, Below.refl _ _, ⟨⟨⟨fun y hy => ?_, I1.out⟩, I2.out⟩, I3.out⟩, I4.out⟩
            rcases List.mem_append.1 hy with hy | hy
            · exact HP.out y hy
            · simp at hy; omega
        case done =>
          rintro D xs W hD rfl ⟨⟨⟨⟨hp, i1⟩, i2⟩, i3⟩, i4⟩ hK
          have I1 := Aside0.mk i1
          have I2 := Aside0.mk i2
          have I4 := Aside0.mk i4
          have HP := Aside0.mk hp
          have HK := Aside0.mk hK
          have x4 : W.cell? ⟨w.heap.size + 1, 0, none⟩ = some (.int .i64 0) := (blk_cell i1 0).trans rfl
          have x5 : W.cell? ⟨w.heap.size + 1, 1, none⟩ = some (.int .i64 0) := (blk_cell i1 1).trans rfl
          have x6 : W.cell? ⟨w.heap.size + 1 + 1, 0, none⟩ = some (.bool false) := (blk_cell i2 0).trans rfl
          have f4 := blk_frozen i1 0
          have f5 := blk_frozen i1 1
          have f6 := blk_frozen i2 0
          clear i1 i2 i3 i4 hp hK
          simp only [Exit.inBlock, Exit.then]
          go_wp2
          have hK' := (KeepsOthers.setCell ((W.setCell ⟨w.heap.size + 1, 0, none⟩ (.int .i64 0)).setCell ⟨w.heap.size + 1, 1, none⟩ (.int .i64 0)) ⟨w.heap.size + 1 + 1, 0, none⟩ (.bool false)).same D _ ((KeepsOthers.setCell (W.setCell ⟨w.heap.size + 1, 0, none⟩ (.int .i64 0)) ⟨w.heap.size + 1, 1, none⟩ (.int .i64 0)).same D _ ((KeepsOthers.setCell W ⟨w.heap.size + 1, 0, none⟩ (.int .i64 0)).same D _ HK.out rfl) rfl) rfl
          refine ⟨by simp, .inl ⟨_, _, rfl, run_takeDeferred hK', ?_⟩⟩
          have hlt := blk_lt q3.out
          have hH := H.out
          rw [List.find?_eq_none.2 (by intro x hx; simpa using HP.out x hx)] at hH
          injection hH with h1 h2
          injection h2 with h2 h3
          subst h1 h2 h3
          refine ⟨_, results96 _ _ (w.heap.size + 1) (w.heap.size + 1 + 1) 0 0 false rfl rfl (blk_grown ?_ (grownBy_putObj' _ D (.deferred none)) (by intro e; injection e with e; omega)) (blk_grown ?_ (grownBy_putObj' _ D (.deferred none)) (by intro e; injection e with e; omega)), rfl, ?_⟩
          · exact blk_far (blk_put (cs' := #[.int .i64 0, .int .i64 0]) (blk_put (cs' := #[.int .i64 0, .int .i64 0]) I1.out 0 _ rfl) 1 _ rfl) (by simp) _
          · exact blk_put (cs' := #[.bool false]) (blk_far (blk_far I2.out (by simp) _) (by simp) _) 0 _ rfl
          · exact (((((q5.out.trans I4.out).setCell (by simp) _).setCell (by simp) _).setCell (by simp; omega) _)).trans (belowK_b (w := w) (Nat.le_refl _) _ D _ _ (by omega) hK' rfl rfl)
        case stop =>
          rintro D c pre W hD hpre ⟨⟨rfl, p0, x, ⟨rfl, hp0, hx⟩, i1, i2⟩, i4⟩ hK
          have hlt := blk_lt q3.out
          obtain ⟨rest, hrest⟩ := hpre
          have hH := H.out
          rw [show deps ⟨a0_0, a0_1, a0_2, a0_3, a0_4, a0_5, a0_6, a0_7⟩ (730485 - want / 1440).toNat (want / 1440) = p0 ++ [x] ++ rest from hrest.symm, List.append_assoc, List.find?_append, List.find?_eq_none.2 (by intro y hy; simpa using hp0 y hy)] at hH
          rw [show ([x] ++ rest).find? (fun d => decide (want ≤ d)) = some x from by rw [List.singleton_append, List.find?_cons, decide_eq_true hx]] at hH
          injection hH with h1 h2
          injection h2 with h2 h3
          subst h1 h2 h3
          have I1 := Aside0.mk i1
          have I2 := Aside0.mk i2
          have I4 := Aside0.mk i4
          have HK := Aside0.mk hK
          clear i1 i2 i4 hK hrest hp0
          gi_wp2
          refine ⟨by simp, .inl ⟨_, _, rfl, run_takeDeferred HK.out, ?_⟩⟩
          exact ⟨_, results96 _ _ (w.heap.size + 1) (w.heap.size + 1 + 1) x (x + a0_4) true rfl rfl (blk_grown I1.out (grownBy_putObj' _ D (.deferred none)) (by intro e; injection e with e; omega)) (blk_grown I2.out (grownBy_putObj' _ D (.deferred none)) (by intro e; injection e with e; omega)), rfl, (q5.out.trans I4.out).trans (belowK_b (w := w) (Nat.le_refl _) _ D _ _ (by omega) HK.out rfl rfl)⟩
      | _ => exact hq.elim
end Go.Proofs.Ytdpadeklociinaa.PA
