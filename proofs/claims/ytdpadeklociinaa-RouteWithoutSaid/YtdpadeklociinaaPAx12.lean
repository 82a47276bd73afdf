-- Written by a program of ours (wip/tools), by way of the print
import Derived.Test.YtdpadeklociinaaPAx0
namespace Go.Proofs.Ytdpadeklociinaa.PA
open Go.RowKit Go.Proofs.YtdpadeklociinaaW.PrintWords Go.Proofs.YtdpadeklociinaaW.PrintLast Go.Proofs.YtdpadeklociinaaW.PrintMore
attribute [local go_sem] max2_int min2_int max_two min_two max_three min_three max_four min_four   -- for this text's walks alone
set_option linter.unusedVariables false
set_option linter.unusedSimpArgs false

-- GIVEN: function 33 (route_Right)

/-! ### network_Find: function 35 -/
def network_Find.l0 : Nat → Int → List (S23) → Int → Int → Option (Int × Int × Int × Int × Int × Int × Int × Int × Bool)
  | 0, _, _, _, _ => none
  | k + 1, x1, x9, x10, x11 => if x11 < x10 then (if 0 ≤ x11 then (if x11 < (x9.length : Int) then (if ((rd_T23 x9 x11).f0) = x1 then (some ((rd_T23 x9 x11).f0, (rd_T23 x9 x11).f1, (rd_T23 x9 x11).f2, (rd_T23 x9 x11).f3, (rd_T23 x9 x11).f4, (rd_T23 x9 x11).f5, (rd_T23 x9 x11).f6, (rd_T23 x9 x11).f7, true)) else (network_Find.l0 k x1 x9 x10 (wrap64 (x11 + 1)))) else (none)) else (none)) else (some (0, 0, 0, 0, 0, 0, 0, 0, false))
def network_Find.f (k : Nat) (l0_0 : List Int) (l0_1 : List (S23)) (a1 : Int) : Option (Int × Int × Int × Int × Int × Int × Int × Int × Bool) := network_Find.l0 k a1 l0_1 (l0_1.length : Int) 0
theorem network_Find.mono_l : ∀ k, (∀ y0 y1 y2 y3, LeO (network_Find.l0 k y0 y1 y2 y3) (network_Find.l0 (k + 1) y0 y1 y2 y3))
  | 0 => fun _ _ _ _ r h => by simp [network_Find.l0] at h
  | k + 1 => by
    have ih0 := network_Find.mono_l k
    · intro y0 y1 y2 y3
      unfold network_Find.l0
      repeat' first
      | (with_reducible exact ih0 _ _ _ _)
      | (with_reducible exact LeO.refl _)
      | (with_reducible exact LeO.none _)
      | (with_reducible refine LeO.ite ?_ ?_)
      | (with_reducible refine LeO.bind ?_ (fun _ => ?_))
      | exact ih0 _ _ _ _
      | exact LeO.none _
      | refine LeO.ite ?_ ?_
      | refine LeO.bind ?_ (fun _ => ?_)
theorem network_Find.mono : ∀ a0 a1 a2 k, LeO (network_Find.f k a0 a1 a2) (network_Find.f (k + 1) a0 a1 a2) := by
  intro a0 a1 a2 k
  have ih0 := network_Find.mono_l k
  unfold network_Find.f
  repeat' first
      | (with_reducible exact ih0 _ _ _ _)
      | (with_reducible exact LeO.refl _)
      | (with_reducible exact LeO.none _)
      | (with_reducible refine LeO.ite ?_ ?_)
      | (with_reducible refine LeO.bind ?_ (fun _ => ?_))
      | exact ih0 _ _ _ _
      | exact LeO.none _
      | refine LeO.ite ?_ ?_
      | refine LeO.bind ?_ (fun _ => ?_)
set_option maxHeartbeats 8000000 in
set_option maxRecDepth 100000 in
theorem network_Find.calls (k : Nat) (A0_0 : Option Addr) (c0_0 : Nat) (l0_0 : List Int) (A0_1 : Option Addr) (c0_1 : Nat) (l0_1 : List (S23)) (a1 : Int) (r1 : Int) (r2 : Int) (r3 : Int) (r4 : Int) (r5 : Int) (r6 : Int) (r7 : Int) (r8 : Int) (r9 : Bool) (w : World) (hr0_0 : Kd.C (Kd.int .i64) w A0_0 l0_0.length l0_0) (hc0_0 : l0_0.length ≤ c0_0) (hr0_1 : Kd.C k23 w A0_1 l0_1.length l0_1) (hc0_1 : l0_1.length ≤ c0_1) (h : network_Find.f k l0_0 l0_1 a1 = some (r1, r2, r3, r4, r5, r6, r7, r8, r9)) :
    Calls Try.prog 35 #[.agg #[.slice A0_0 l0_0.length c0_0, .slice A0_1 l0_1.length c0_1], .int .i64 a1] w fun e w' => e = .returned (.tuple #[.agg #[.int .i64 r1, .int .i64 r2, .int .i64 r3, .int .i64 r4, .int .i64 r5, .int .i64 r6, .int .i64 r7, .int .u8 r8], .bool r9]) ∧ Below w.heap.size w w' := by
  have hu29 := Try.underlying29
  have hu23 := Try.underlying23
  have HR0_0 := Aside0.mk hr0_0
  have HC0_0 := Aside0.mk hc0_0
  clear hr0_0 hc0_0
  have HR0_1 := Aside0.mk hr0_1
  have HC0_1 := Aside0.mk hc0_1
  clear hr0_1 hc0_1
  have HB := Aside0.mk (Below.refl w.heap.size w)
  have H : (network_Find.l0 k a1 l0_1 (l0_1.length : Int) 0) = some (r1, r2, r3, r4, r5, r6, r7, r8, r9) := h
  clear h
  have H' := Aside0.mk H
  clear H
  go_enter Try.func35, Try.ntmps35
  go_wp2_with (first | ((with_reducible refine gate_dst (N := 2) rfl ?_); refine box_event ?hg (N := 2) ?hd (cs := #[.slice A0_0 l0_0.length c0_0, .slice A0_1 l0_1.length c0_1]) (t := 29) ?hr ?_; (case hd => rfl); (case hg => rfl); (case hr => first | (go_simp; done) | (go_simp; rfl)); intro gb425 hg w3 hbox hb; have n0_ := Aside0.mk (below_step (by repeat (first | (with_reducible first | exact HB.out | apply below_alloc | apply pw_below_drewN | apply below_drew1) | exact HB.out)) hb); have n1_ := Aside0.mk (hbox); have n2_ := Aside0.mk ((by rw [hg]; exact (below_size (by repeat (first | (with_reducible first | exact HB.out | apply below_alloc | apply pw_below_drewN | apply below_drew1) | exact HB.out))) : w.heap.size ≤ gb425)); have n3_ := Aside0.mk ((by rw [hg]; exact (below_size (by repeat (first | (with_reducible first | exact HB.out | apply below_alloc | apply pw_below_drewN | apply below_drew1) | exact HB.out))) : w.heap.size ≤ gb425)); clear HB; have HB := n0_; have BK425 := n1_; have GW425 := n2_; have GE425 := n3_; clear n0_ n1_ n2_ n3_; clear hb hbox hg) | ((with_reducible refine gate_dst (N := 4) rfl ?_); refine box_event ?hg (N := 4) ?hd (cs := #[.int .i64 0, .int .i64 0, .int .i64 0, .int .i64 0, .int .i64 0, .int .i64 0, .int .i64 0, .int .u8 0]) (t := 23) ?hr ?_; (case hd => rfl); (case hg => rfl); (case hr => first | (go_simp; done) | (go_simp; rfl)); intro gb426 hg w4 hbox hb; have n0_ := Aside0.mk (blk_below (g := gb425) (o := .cells #[.slice A0_0 l0_0.length c0_0, .slice A0_1 l0_1.length c0_1] 29 (0, 0)) (by (with_reducible repeat (first | refine blk_drewN ?_ _ | refine blk_drew ?_ | refine blk_alloc ?_ _)); exact BK425.out) hb); have n1_ := Aside0.mk (below_step (by repeat (first | (with_reducible first | exact HB.out | apply below_alloc | apply pw_below_drewN | apply below_drew1 | refine below_set ?_ GE425.out) | exact HB.out)) hb); have n2_ := Aside0.mk (hbox); have n3_ := Aside0.mk ((by rw [hg]; exact (below_size (by repeat (first | (with_reducible first | exact HB.out | apply below_alloc | apply pw_below_drewN | apply below_drew1 | refine below_set ?_ GE425.out) | exact HB.out))) : w.heap.size ≤ gb426)); have n4_ := Aside0.mk ((by rw [hg]; exact (below_size (by repeat (first | (with_reducible first | exact HB.out | apply below_alloc | apply pw_below_drewN | apply below_drew1 | refine below_set ?_ GE425.out) | exact HB.out))) : w.heap.size ≤ gb426)); have n5_ := Aside0.mk ((by rw [hg]; exact Nat.ne_of_lt (blk_lt (g := gb425) (o := .cells #[.slice A0_0 l0_0.length c0_0, .slice A0_1 l0_1.length c0_1] 29 (0, 0)) (by (with_reducible repeat (first | refine blk_drewN ?_ _ | refine blk_drew ?_ | refine blk_alloc ?_ _)); exact BK425.out)) : gb425 ≠ gb426)); have n6_ := Aside0.mk ((by rw [hg]; exact Nat.ne_of_gt (blk_lt (g := gb425) (o := .cells #[.slice A0_0 l0_0.length c0_0, .slice A0_1 l0_1.length c0_1] 29 (0, 0)) (by (with_reducible repeat (first | refine blk_drewN ?_ _ | refine blk_drew ?_ | refine blk_alloc ?_ _)); exact BK425.out)) : gb426 ≠ gb425)); clear BK425; clear HB; have BK425 := n0_; have HB := n1_; have BK426 := n2_; have GW426 := n3_; have GE426 := n4_; have NB425_426 := n5_; have NB426_425 := n6_; clear n0_ n1_ n2_ n3_ n4_ n5_ n6_; clear hb hbox hg; have hnb5 := NB425_426.out; have hnc5 := NB426_425.out; have hcz6_0 : w4.cell? ⟨gb425, 0, none⟩ = some (.slice A0_0 l0_0.length c0_0) := (blk_cell BK425.out 0).trans rfl; have hcz6_1 : w4.cell? ⟨gb425, 1, none⟩ = some (.slice A0_1 l0_1.length c0_1) := (blk_cell BK425.out 1).trans rfl; have hfz6_0 := blk_frozen BK425.out 0; have hfz6_1 := blk_frozen BK425.out 1))
  go_loopg [11] k (fun kq v11 w' => ∃ (x11_1 : Int) (x427000_1 : Int) (x427001_1 : Int) (x427002_1 : Int) (x427003_1 : Int) (x427004_1 : Int) (x427005_1 : Int) (x427006_1 : Int) (x427007_1 : Int), v11 = .int .i64 x11_1 ∧ Aside0 (network_Find.l0 kq a1 l0_1 (l0_1.length : Int) x11_1 = some (r1, r2, r3, r4, r5, r6, r7, r8, r9)) ∧ Aside0 (kq ≤ k) ∧ Aside0 (w'.heap[gb425]? = some (.cells #[(.slice A0_0 l0_0.length c0_0), (.slice A0_1 l0_1.length c0_1)] 29 (0, 0))) ∧ Aside0 (w'.heap[gb426]? = some (.cells #[.int .i64 x427000_1, .int .i64 x427001_1, .int .i64 x427002_1, .int .i64 x427003_1, .int .i64 x427004_1, .int .i64 x427005_1, .int .i64 x427006_1, .int .u8 x427007_1] 23 (0, 0))) ∧ Aside0 (Below w.heap.size w w'))
  case atStart => exact ⟨(0), (0), (0), (0), (0), (0), (0), (0), (0), (by first | rfl | (simp; done) | (simp [*]; done)), H', ⟨Nat.le_refl _⟩, ⟨by (with_reducible repeat (first | refine blk_drewN ?_ _ | refine blk_drew ?_ | refine blk_alloc ?_ _)); exact BK425.out⟩, ⟨by (with_reducible repeat (first | refine blk_drewN ?_ _ | refine blk_drew ?_ | refine blk_alloc ?_ _)); exact BK426.out⟩, ⟨by repeat (first | (with_reducible first | exact HB.out | apply below_alloc | apply pw_below_drewN | apply below_drew1 | refine below_set ?_ GE425.out | refine below_set ?_ GE426.out) | exact HB.out)⟩⟩
  case round =>
    clear H'
    try clear p2
    try clear c3
    try clear c5
    try clear hcz6_0
    try clear hcz6_1
    try clear hfz6_0
    try clear hfz6_1
    obtain ⟨x11_1, x427000_1, x427001_1, x427002_1, x427003_1, x427004_1, x427005_1, x427006_1, x427007_1, rfl, HA, HK1, BK425, BK426, HB⟩ := hrel
    cases gk with
    | zero => exact absurd HA.out (by simp [network_Find.l0])
    | succ k1 =>
      have H := HA.out
      clear HA
      simp only [network_Find.l0] at H
      by_cases c7 : x11_1 < (l0_1.length : Int)
      · rw [if_pos c7] at H
        have c7b0 : decide (x11_1 < (l0_1.length : Int)) = true := decide_eq_true c7
        clear c7
        by_cases c8 : 0 ≤ x11_1
        · rw [if_pos c8] at H
          have c8b0 : decide (0 ≤ x11_1) = true := decide_eq_true c8
          clear c8
          by_cases c9 : x11_1 < (l0_1.length : Int)
          · rw [if_pos c9] at H
            have c9b0 : decide (x11_1 < (l0_1.length : Int)) = true := decide_eq_true c9
            clear c9
            by_cases c10 : ((rd_T23 l0_1 x11_1).f0) = a1
            · rw [if_pos c10] at H
              have c10b0 : (((rd_T23 l0_1 x11_1).f0) == a1) = true := beq_iff_eq.mpr c10
              have c10b1 : (((rd_T23 l0_1 x11_1).f0) != a1) = false := bne_eq_false_iff_eq.mpr c10
              clear c10
              simp only [Option.some.injEq, Prod.mk.injEq] at H
              obtain ⟨rfl, rfl, rfl, rfl, rfl, rfl, rfl, rfl, rfl⟩ := H
              have p427 : 0 ≤ (x11_1 : Int) := of_decide_eq_true (by first | (with_reducible assumption) | assumption)
              have q427 : x11_1 < (l0_1.length : Int) := of_decide_eq_true (by first | (with_reducible assumption) | assumption)
              obtain ⟨ad427, e427, hx427_0, hx427_1, hx427_2, hx427_3, hx427_4, hx427_5, hx427_6, hx427_7⟩ := at_T23 HR0_1.out x11_1 p427 q427
              cases e427
              replace hx427_0 := (HB.out.cell (World.block_lt_of_cell? w _ hx427_0)).trans hx427_0
              replace hx427_1 := (HB.out.cell (World.block_lt_of_cell? w _ hx427_1)).trans hx427_1
              replace hx427_2 := (HB.out.cell (World.block_lt_of_cell? w _ hx427_2)).trans hx427_2
              replace hx427_3 := (HB.out.cell (World.block_lt_of_cell? w _ hx427_3)).trans hx427_3
              replace hx427_4 := (HB.out.cell (World.block_lt_of_cell? w _ hx427_4)).trans hx427_4
              replace hx427_5 := (HB.out.cell (World.block_lt_of_cell? w _ hx427_5)).trans hx427_5
              replace hx427_6 := (HB.out.cell (World.block_lt_of_cell? w _ hx427_6)).trans hx427_6
              replace hx427_7 := (HB.out.cell (World.block_lt_of_cell? w _ hx427_7)).trans hx427_7
              replace p427 := eq_true p427
              replace q427 := eq_true q427
              go_wp2_with (first | ((with_reducible refine gate_dst (N := 7) rfl ?_); refine box_event ?hg (N := 7) ?hd (cs := #[.int .i64 0, .int .i64 0, .int .i64 0, .int .i64 0, .int .i64 0, .int .i64 0, .int .i64 0, .int .u8 0]) (t := 23) ?hr ?_; (case hd => rfl); (case hg => rfl); (case hr => first | (go_simp; done) | (go_simp; rfl)); intro gb428 hg w11 hbox hb; have n0_ := Aside0.mk (blk_below (g := gb425) (o := .cells #[.slice A0_0 l0_0.length c0_0, .slice (some ad427) l0_1.length c0_1] 29 (0, 0)) (by (with_reducible repeat (first | refine blk_drewN ?_ _ | refine blk_drew ?_ | refine blk_alloc ?_ _)); exact BK425.out) hb); have n1_ := Aside0.mk (blk_below (g := gb426) (o := .cells #[.int .i64 x427000_1, .int .i64 x427001_1, .int .i64 x427002_1, .int .i64 x427003_1, .int .i64 x427004_1, .int .i64 x427005_1, .int .i64 x427006_1, .int .u8 x427007_1] 23 (0, 0)) (by (with_reducible repeat (first | refine blk_drewN ?_ _ | refine blk_drew ?_ | refine blk_alloc ?_ _)); exact BK426.out) hb); have n2_ := Aside0.mk (below_step (by repeat (first | (with_reducible first | exact HB.out | apply below_alloc | apply pw_below_drewN | apply below_drew1 | refine below_set ?_ GE425.out | refine below_set ?_ GE426.out) | exact HB.out)) hb); have n3_ := Aside0.mk (hbox); have n4_ := Aside0.mk ((by rw [hg]; exact (below_size (by repeat (first | (with_reducible first | exact HB.out | apply below_alloc | apply pw_below_drewN | apply below_drew1 | refine below_set ?_ GE425.out | refine below_set ?_ GE426.out) | exact HB.out))) : w.heap.size ≤ gb428)); have n5_ := Aside0.mk ((by rw [hg]; exact (below_size (by repeat (first | (with_reducible first | exact HB.out | apply below_alloc | apply pw_below_drewN | apply below_drew1 | refine below_set ?_ GE425.out | refine below_set ?_ GE426.out) | exact HB.out))) : w.heap.size ≤ gb428)); have n6_ := Aside0.mk ((by rw [hg]; exact Nat.ne_of_lt (blk_lt (g := gb425) (o := .cells #[.slice A0_0 l0_0.length c0_0, .slice (some ad427) l0_1.length c0_1] 29 (0, 0)) (by (with_reducible repeat (first | refine blk_drewN ?_ _ | refine blk_drew ?_ | refine blk_alloc ?_ _)); exact BK425.out)) : gb425 ≠ gb428)); have n7_ := Aside0.mk ((by rw [hg]; exact Nat.ne_of_gt (blk_lt (g := gb425) (o := .cells #[.slice A0_0 l0_0.length c0_0, .slice (some ad427) l0_1.length c0_1] 29 (0, 0)) (by (with_reducible repeat (first | refine blk_drewN ?_ _ | refine blk_drew ?_ | refine blk_alloc ?_ _)); exact BK425.out)) : gb428 ≠ gb425)); have n8_ := Aside0.mk ((by rw [hg]; exact Nat.ne_of_lt (blk_lt (g := gb426) (o := .cells #[.int .i64 x427000_1, .int .i64 x427001_1, .int .i64 x427002_1, .int .i64 x427003_1, .int .i64 x427004_1, .int .i64 x427005_1, .int .i64 x427006_1, .int .u8 x427007_1] 23 (0, 0)) (by (with_reducible repeat (first | refine blk_drewN ?_ _ | refine blk_drew ?_ | refine blk_alloc ?_ _)); exact BK426.out)) : gb426 ≠ gb428)); have n9_ := Aside0.mk ((by rw [hg]; exact Nat.ne_of_gt (blk_lt (g := gb426) (o := .cells #[.int .i64 x427000_1, .int .i64 x427001_1, .int .i64 x427002_1, .int .i64 x427003_1, .int .i64 x427004_1, .int .i64 x427005_1, .int .i64 x427006_1, .int .u8 x427007_1] 23 (0, 0)) (by (with_reducible repeat (first | refine blk_drewN ?_ _ | refine blk_drew ?_ | refine blk_alloc ?_ _)); exact BK426.out)) : gb428 ≠ gb426)); clear BK425; clear BK426; clear HB; have BK425 := n0_; have BK426 := n1_; have HB := n2_; have BK428 := n3_; have GW428 := n4_; have GE428 := n5_; have NB425_428 := n6_; have NB428_425 := n7_; have NB426_428 := n8_; have NB428_426 := n9_; clear n0_ n1_ n2_ n3_ n4_ n5_ n6_ n7_ n8_ n9_; clear hb hbox hg; have hnb12 := NB428_425.out; have hnc12 := NB425_428.out; have hnb13 := NB428_426.out; have hnc13 := NB426_428.out; have hcz14_0 : w11.cell? ⟨gb428, 0, none⟩ = some (.int .i64 0) := (blk_cell BK428.out 0).trans rfl; have hcz14_1 : w11.cell? ⟨gb428, 1, none⟩ = some (.int .i64 0) := (blk_cell BK428.out 1).trans rfl; have hcz14_2 : w11.cell? ⟨gb428, 2, none⟩ = some (.int .i64 0) := (blk_cell BK428.out 2).trans rfl; have hcz14_3 : w11.cell? ⟨gb428, 3, none⟩ = some (.int .i64 0) := (blk_cell BK428.out 3).trans rfl; have hcz14_4 : w11.cell? ⟨gb428, 4, none⟩ = some (.int .i64 0) := (blk_cell BK428.out 4).trans rfl; have hcz14_5 : w11.cell? ⟨gb428, 5, none⟩ = some (.int .i64 0) := (blk_cell BK428.out 5).trans rfl; have hcz14_6 : w11.cell? ⟨gb428, 6, none⟩ = some (.int .i64 0) := (blk_cell BK428.out 6).trans rfl; have hcz14_7 : w11.cell? ⟨gb428, 7, none⟩ = some (.int .u8 0) := (blk_cell BK428.out 7).trans rfl; have hfz14_0 := blk_frozen BK428.out 0; have hfz14_1 := blk_frozen BK428.out 1; have hfz14_2 := blk_frozen BK428.out 2; have hfz14_3 := blk_frozen BK428.out 3; have hfz14_4 := blk_frozen BK428.out 4; have hfz14_5 := blk_frozen BK428.out 5; have hfz14_6 := blk_frozen BK428.out 6; have hfz14_7 := blk_frozen BK428.out 7; have hnb15 := NB426_425.out; have hnc15 := NB425_426.out; have hcz16_0 : w11.cell? ⟨gb426, 0, none⟩ = some (.int .i64 x427000_1) := (blk_cell BK426.out 0).trans rfl; have hcz16_1 : w11.cell? ⟨gb426, 1, none⟩ = some (.int .i64 x427001_1) := (blk_cell BK426.out 1).trans rfl; have hcz16_2 : w11.cell? ⟨gb426, 2, none⟩ = some (.int .i64 x427002_1) := (blk_cell BK426.out 2).trans rfl; have hcz16_3 : w11.cell? ⟨gb426, 3, none⟩ = some (.int .i64 x427003_1) := (blk_cell BK426.out 3).trans rfl; have hcz16_4 : w11.cell? ⟨gb426, 4, none⟩ = some (.int .i64 x427004_1) := (blk_cell BK426.out 4).trans rfl; have hcz16_5 : w11.cell? ⟨gb426, 5, none⟩ = some (.int .i64 x427005_1) := (blk_cell BK426.out 5).trans rfl; have hcz16_6 : w11.cell? ⟨gb426, 6, none⟩ = some (.int .i64 x427006_1) := (blk_cell BK426.out 6).trans rfl; have hcz16_7 : w11.cell? ⟨gb426, 7, none⟩ = some (.int .u8 x427007_1) := (blk_cell BK426.out 7).trans rfl; have hfz16_0 := blk_frozen BK426.out 0; have hfz16_1 := blk_frozen BK426.out 1; have hfz16_2 := blk_frozen BK426.out 2; have hfz16_3 := blk_frozen BK426.out 3; have hfz16_4 := blk_frozen BK426.out 4; have hfz16_5 := blk_frozen BK426.out 5; have hfz16_6 := blk_frozen BK426.out 6; have hfz16_7 := blk_frozen BK426.out 7))
              refine bodyPost_ret (results_ct rfl _ _ gb426 23 #[.int .i64 ((rd_T23 l0_1 x11_1).f0), .int .i64 ((rd_T23 l0_1 x11_1).f1), .int .i64 ((rd_T23 l0_1 x11_1).f2), .int .i64 ((rd_T23 l0_1 x11_1).f3), .int .i64 ((rd_T23 l0_1 x11_1).f4), .int .i64 ((rd_T23 l0_1 x11_1).f5), .int .i64 ((rd_T23 l0_1 x11_1).f6), .int .u8 ((rd_T23 l0_1 x11_1).f7)] (0, 0) _ rfl (by (with_reducible repeat (first | refine blk_drewN ?_ _ | refine blk_drew ?_ | refine blk_alloc ?_ _)); refine blk_put (cs := #[.int .i64 ((rd_T23 l0_1 x11_1).f0), .int .i64 ((rd_T23 l0_1 x11_1).f1), .int .i64 ((rd_T23 l0_1 x11_1).f2), .int .i64 ((rd_T23 l0_1 x11_1).f3), .int .i64 ((rd_T23 l0_1 x11_1).f4), .int .i64 ((rd_T23 l0_1 x11_1).f5), .int .i64 ((rd_T23 l0_1 x11_1).f6), .int .u8 x427007_1]) ?_ 7 _ rfl; (with_reducible repeat (first | refine blk_drewN ?_ _ | refine blk_drew ?_ | refine blk_alloc ?_ _)); refine blk_put (cs := #[.int .i64 ((rd_T23 l0_1 x11_1).f0), .int .i64 ((rd_T23 l0_1 x11_1).f1), .int .i64 ((rd_T23 l0_1 x11_1).f2), .int .i64 ((rd_T23 l0_1 x11_1).f3), .int .i64 ((rd_T23 l0_1 x11_1).f4), .int .i64 ((rd_T23 l0_1 x11_1).f5), .int .i64 x427006_1, .int .u8 x427007_1]) ?_ 6 _ rfl; (with_reducible repeat (first | refine blk_drewN ?_ _ | refine blk_drew ?_ | refine blk_alloc ?_ _)); refine blk_put (cs := #[.int .i64 ((rd_T23 l0_1 x11_1).f0), .int .i64 ((rd_T23 l0_1 x11_1).f1), .int .i64 ((rd_T23 l0_1 x11_1).f2), .int .i64 ((rd_T23 l0_1 x11_1).f3), .int .i64 ((rd_T23 l0_1 x11_1).f4), .int .i64 x427005_1, .int .i64 x427006_1, .int .u8 x427007_1]) ?_ 5 _ rfl; (with_reducible repeat (first | refine blk_drewN ?_ _ | refine blk_drew ?_ | refine blk_alloc ?_ _)); refine blk_put (cs := #[.int .i64 ((rd_T23 l0_1 x11_1).f0), .int .i64 ((rd_T23 l0_1 x11_1).f1), .int .i64 ((rd_T23 l0_1 x11_1).f2), .int .i64 ((rd_T23 l0_1 x11_1).f3), .int .i64 x427004_1, .int .i64 x427005_1, .int .i64 x427006_1, .int .u8 x427007_1]) ?_ 4 _ rfl; (with_reducible repeat (first | refine blk_drewN ?_ _ | refine blk_drew ?_ | refine blk_alloc ?_ _)); refine blk_put (cs := #[.int .i64 ((rd_T23 l0_1 x11_1).f0), .int .i64 ((rd_T23 l0_1 x11_1).f1), .int .i64 ((rd_T23 l0_1 x11_1).f2), .int .i64 x427003_1, .int .i64 x427004_1, .int .i64 x427005_1, .int .i64 x427006_1, .int .u8 x427007_1]) ?_ 3 _ rfl; (with_reducible repeat (first | refine blk_drewN ?_ _ | refine blk_drew ?_ | refine blk_alloc ?_ _)); refine blk_put (cs := #[.int .i64 ((rd_T23 l0_1 x11_1).f0), .int .i64 ((rd_T23 l0_1 x11_1).f1), .int .i64 x427002_1, .int .i64 x427003_1, .int .i64 x427004_1, .int .i64 x427005_1, .int .i64 x427006_1, .int .u8 x427007_1]) ?_ 2 _ rfl; (with_reducible repeat (first | refine blk_drewN ?_ _ | refine blk_drew ?_ | refine blk_alloc ?_ _)); refine blk_put (cs := #[.int .i64 ((rd_T23 l0_1 x11_1).f0), .int .i64 x427001_1, .int .i64 x427002_1, .int .i64 x427003_1, .int .i64 x427004_1, .int .i64 x427005_1, .int .i64 x427006_1, .int .u8 x427007_1]) ?_ 1 _ rfl; (with_reducible repeat (first | refine blk_drewN ?_ _ | refine blk_drew ?_ | refine blk_alloc ?_ _)); refine blk_put (cs := #[.int .i64 x427000_1, .int .i64 x427001_1, .int .i64 x427002_1, .int .i64 x427003_1, .int .i64 x427004_1, .int .i64 x427005_1, .int .i64 x427006_1, .int .u8 x427007_1]) ?_ 0 _ rfl; (with_reducible repeat (first | refine blk_drewN ?_ _ | refine blk_drew ?_ | refine blk_alloc ?_ _)); refine blk_far ?_ NB426_428.out _; (with_reducible repeat (first | refine blk_drewN ?_ _ | refine blk_drew ?_ | refine blk_alloc ?_ _)); refine blk_far ?_ NB426_428.out _; (with_reducible repeat (first | refine blk_drewN ?_ _ | refine blk_drew ?_ | refine blk_alloc ?_ _)); refine blk_far ?_ NB426_428.out _; (with_reducible repeat (first | refine blk_drewN ?_ _ | refine blk_drew ?_ | refine blk_alloc ?_ _)); refine blk_far ?_ NB426_428.out _; (with_reducible repeat (first | refine blk_drewN ?_ _ | refine blk_drew ?_ | refine blk_alloc ?_ _)); refine blk_far ?_ NB426_428.out _; (with_reducible repeat (first | refine blk_drewN ?_ _ | refine blk_drew ?_ | refine blk_alloc ?_ _)); refine blk_far ?_ NB426_428.out _; (with_reducible repeat (first | refine blk_drewN ?_ _ | refine blk_drew ?_ | refine blk_alloc ?_ _)); refine blk_far ?_ NB426_428.out _; (with_reducible repeat (first | refine blk_drewN ?_ _ | refine blk_drew ?_ | refine blk_alloc ?_ _)); refine blk_far ?_ NB426_428.out _; (with_reducible repeat (first | refine blk_drewN ?_ _ | refine blk_drew ?_ | refine blk_alloc ?_ _)); exact BK426.out) Try.underlying23 rfl (by kernel_rfl)) rfl ?_
              exact ⟨by first | rfl | (simp [errW_none, errW_some] <;> rfl) | (simp [*, errW_none, errW_some] <;> rfl), by repeat (first | (with_reducible first | exact HB.out | apply below_alloc | apply pw_below_drewN | apply below_drew1 | refine below_set ?_ GE425.out | refine below_set ?_ GE426.out | refine below_set ?_ GE428.out) | exact HB.out)⟩
            · rw [if_neg c10] at H
              have c10b0 : (((rd_T23 l0_1 x11_1).f0) == a1) = false := beq_eq_false_iff_ne.mpr c10
              have c10b1 : (((rd_T23 l0_1 x11_1).f0) != a1) = true := bne_iff_ne.mpr c10
              have H' := Aside0.mk H
              clear H
              have p427 : 0 ≤ (x11_1 : Int) := of_decide_eq_true (by first | (with_reducible assumption) | assumption)
              have q427 : x11_1 < (l0_1.length : Int) := of_decide_eq_true (by first | (with_reducible assumption) | assumption)
              obtain ⟨ad427, e427, hx427_0, hx427_1, hx427_2, hx427_3, hx427_4, hx427_5, hx427_6, hx427_7⟩ := at_T23 HR0_1.out x11_1 p427 q427
              cases e427
              replace hx427_0 := (HB.out.cell (World.block_lt_of_cell? w _ hx427_0)).trans hx427_0
              replace hx427_1 := (HB.out.cell (World.block_lt_of_cell? w _ hx427_1)).trans hx427_1
              replace hx427_2 := (HB.out.cell (World.block_lt_of_cell? w _ hx427_2)).trans hx427_2
              replace hx427_3 := (HB.out.cell (World.block_lt_of_cell? w _ hx427_3)).trans hx427_3
              replace hx427_4 := (HB.out.cell (World.block_lt_of_cell? w _ hx427_4)).trans hx427_4
              replace hx427_5 := (HB.out.cell (World.block_lt_of_cell? w _ hx427_5)).trans hx427_5
              replace hx427_6 := (HB.out.cell (World.block_lt_of_cell? w _ hx427_6)).trans hx427_6
              replace hx427_7 := (HB.out.cell (World.block_lt_of_cell? w _ hx427_7)).trans hx427_7
              replace p427 := eq_true p427
              replace q427 := eq_true q427
              go_wp2_with (first | ((with_reducible refine gate_dst (N := 7) rfl ?_); refine box_event ?hg (N := 7) ?hd (cs := #[.int .i64 0, .int .i64 0, .int .i64 0, .int .i64 0, .int .i64 0, .int .i64 0, .int .i64 0, .int .u8 0]) (t := 23) ?hr ?_; (case hd => rfl); (case hg => rfl); (case hr => first | (go_simp; done) | (go_simp; rfl)); intro gb428 hg w17 hbox hb; have n0_ := Aside0.mk (blk_below (g := gb425) (o := .cells #[.slice A0_0 l0_0.length c0_0, .slice (some ad427) l0_1.length c0_1] 29 (0, 0)) (by (with_reducible repeat (first | refine blk_drewN ?_ _ | refine blk_drew ?_ | refine blk_alloc ?_ _)); exact BK425.out) hb); have n1_ := Aside0.mk (blk_below (g := gb426) (o := .cells #[.int .i64 x427000_1, .int .i64 x427001_1, .int .i64 x427002_1, .int .i64 x427003_1, .int .i64 x427004_1, .int .i64 x427005_1, .int .i64 x427006_1, .int .u8 x427007_1] 23 (0, 0)) (by (with_reducible repeat (first | refine blk_drewN ?_ _ | refine blk_drew ?_ | refine blk_alloc ?_ _)); exact BK426.out) hb); have n2_ := Aside0.mk (below_step (by repeat (first | (with_reducible first | exact HB.out | apply below_alloc | apply pw_below_drewN | apply below_drew1 | refine below_set ?_ GE425.out | refine below_set ?_ GE426.out) | exact HB.out)) hb); have n3_ := Aside0.mk (hbox); have n4_ := Aside0.mk ((by rw [hg]; exact (below_size (by repeat (first | (with_reducible first | exact HB.out | apply below_alloc | apply pw_below_drewN | apply below_drew1 | refine below_set ?_ GE425.out | refine below_set ?_ GE426.out) | exact HB.out))) : w.heap.size ≤ gb428)); have n5_ := Aside0.mk ((by rw [hg]; exact (below_size (by repeat (first | (with_reducible first | exact HB.out | apply below_alloc | apply pw_below_drewN | apply below_drew1 | refine below_set ?_ GE425.out | refine below_set ?_ GE426.out) | exact HB.out))) : w.heap.size ≤ gb428)); have n6_ := Aside0.mk ((by rw [hg]; exact Nat.ne_of_lt (blk_lt (g := gb425) (o := .cells #[.slice A0_0 l0_0.length c0_0, .slice (some ad427) l0_1.length c0_1] 29 (0, 0)) (by (with_reducible repeat (first | refine blk_drewN ?_ _ | refine blk_drew ?_ | refine blk_alloc ?_ _)); exact BK425.out)) : gb425 ≠ gb428)); have n7_ := Aside0.mk ((by rw [hg]; exact Nat.ne_of_gt (blk_lt (g := gb425) (o := .cells #[.slice A0_0 l0_0.length c0_0, .slice (some ad427) l0_1.length c0_1] 29 (0, 0)) (by (with_reducible repeat (first | refine blk_drewN ?_ _ | refine blk_drew ?_ | refine blk_alloc ?_ _)); exact BK425.out)) : gb428 ≠ gb425)); have n8_ := Aside0.mk ((by rw [hg]; exact Nat.ne_of_lt (blk_lt (g := gb426) (o := .cells #[.int .i64 x427000_1, .int .i64 x427001_1, .int .i64 x427002_1, .int .i64 x427003_1, .int .i64 x427004_1, .int .i64 x427005_1, .int .i64 x427006_1, .int .u8 x427007_1] 23 (0, 0)) (by (with_reducible repeat (first | refine blk_drewN ?_ _ | refine blk_drew ?_ | refine blk_alloc ?_ _)); exact BK426.out)) : gb426 ≠ gb428)); have n9_ := Aside0.mk ((by rw [hg]; exact Nat.ne_of_gt (blk_lt (g := gb426) (o := .cells #[.int .i64 x427000_1, .int .i64 x427001_1, .int .i64 x427002_1, .int .i64 x427003_1, .int .i64 x427004_1, .int .i64 x427005_1, .int .i64 x427006_1, .int .u8 x427007_1] 23 (0, 0)) (by (with_reducible repeat (first | refine blk_drewN ?_ _ | refine blk_drew ?_ | refine blk_alloc ?_ _)); exact BK426.out)) : gb428 ≠ gb426)); clear BK425; clear BK426; clear HB; have BK425 := n0_; have BK426 := n1_; have HB := n2_; have BK428 := n3_; have GW428 := n4_; have GE428 := n5_; have NB425_428 := n6_; have NB428_425 := n7_; have NB426_428 := n8_; have NB428_426 := n9_; clear n0_ n1_ n2_ n3_ n4_ n5_ n6_ n7_ n8_ n9_; clear hb hbox hg; have hnb18 := NB428_425.out; have hnc18 := NB425_428.out; have hnb19 := NB428_426.out; have hnc19 := NB426_428.out; have hcz20_0 : w17.cell? ⟨gb428, 0, none⟩ = some (.int .i64 0) := (blk_cell BK428.out 0).trans rfl; have hcz20_1 : w17.cell? ⟨gb428, 1, none⟩ = some (.int .i64 0) := (blk_cell BK428.out 1).trans rfl; have hcz20_2 : w17.cell? ⟨gb428, 2, none⟩ = some (.int .i64 0) := (blk_cell BK428.out 2).trans rfl; have hcz20_3 : w17.cell? ⟨gb428, 3, none⟩ = some (.int .i64 0) := (blk_cell BK428.out 3).trans rfl; have hcz20_4 : w17.cell? ⟨gb428, 4, none⟩ = some (.int .i64 0) := (blk_cell BK428.out 4).trans rfl; have hcz20_5 : w17.cell? ⟨gb428, 5, none⟩ = some (.int .i64 0) := (blk_cell BK428.out 5).trans rfl; have hcz20_6 : w17.cell? ⟨gb428, 6, none⟩ = some (.int .i64 0) := (blk_cell BK428.out 6).trans rfl; have hcz20_7 : w17.cell? ⟨gb428, 7, none⟩ = some (.int .u8 0) := (blk_cell BK428.out 7).trans rfl; have hfz20_0 := blk_frozen BK428.out 0; have hfz20_1 := blk_frozen BK428.out 1; have hfz20_2 := blk_frozen BK428.out 2; have hfz20_3 := blk_frozen BK428.out 3; have hfz20_4 := blk_frozen BK428.out 4; have hfz20_5 := blk_frozen BK428.out 5; have hfz20_6 := blk_frozen BK428.out 6; have hfz20_7 := blk_frozen BK428.out 7))
              go_roundg k1
              case measure => have := HK1.out; omega
              case rel => exact ⟨(wrap64 (x11_1 + 1)), (x427000_1), (x427001_1), (x427002_1), (x427003_1), (x427004_1), (x427005_1), (x427006_1), (x427007_1), (by first | rfl | (simp; done) | (simp [*]; done)), H', ⟨by have := HK1.out; omega⟩, ⟨by (with_reducible repeat (first | refine blk_drewN ?_ _ | refine blk_drew ?_ | refine blk_alloc ?_ _)); refine blk_far ?_ NB425_428.out _; (with_reducible repeat (first | refine blk_drewN ?_ _ | refine blk_drew ?_ | refine blk_alloc ?_ _)); refine blk_far ?_ NB425_428.out _; (with_reducible repeat (first | refine blk_drewN ?_ _ | refine blk_drew ?_ | refine blk_alloc ?_ _)); refine blk_far ?_ NB425_428.out _; (with_reducible repeat (first | refine blk_drewN ?_ _ | refine blk_drew ?_ | refine blk_alloc ?_ _)); refine blk_far ?_ NB425_428.out _; (with_reducible repeat (first | refine blk_drewN ?_ _ | refine blk_drew ?_ | refine blk_alloc ?_ _)); refine blk_far ?_ NB425_428.out _; (with_reducible repeat (first | refine blk_drewN ?_ _ | refine blk_drew ?_ | refine blk_alloc ?_ _)); refine blk_far ?_ NB425_428.out _; (with_reducible repeat (first | refine blk_drewN ?_ _ | refine blk_drew ?_ | refine blk_alloc ?_ _)); refine blk_far ?_ NB425_428.out _; (with_reducible repeat (first | refine blk_drewN ?_ _ | refine blk_drew ?_ | refine blk_alloc ?_ _)); refine blk_far ?_ NB425_428.out _; (with_reducible repeat (first | refine blk_drewN ?_ _ | refine blk_drew ?_ | refine blk_alloc ?_ _)); exact BK425.out⟩, ⟨by (with_reducible repeat (first | refine blk_drewN ?_ _ | refine blk_drew ?_ | refine blk_alloc ?_ _)); refine blk_far ?_ NB426_428.out _; (with_reducible repeat (first | refine blk_drewN ?_ _ | refine blk_drew ?_ | refine blk_alloc ?_ _)); refine blk_far ?_ NB426_428.out _; (with_reducible repeat (first | refine blk_drewN ?_ _ | refine blk_drew ?_ | refine blk_alloc ?_ _)); refine blk_far ?_ NB426_428.out _; (with_reducible repeat (first | refine blk_drewN ?_ _ | refine blk_drew ?_ | refine blk_alloc ?_ _)); refine blk_far ?_ NB426_428.out _; (with_reducible repeat (first | refine blk_drewN ?_ _ | refine blk_drew ?_ | refine blk_alloc ?_ _)); refine blk_far ?_ NB426_428.out _; (with_reducible repeat (first | refine blk_drewN ?_ _ | refine blk_drew ?_ | refine blk_alloc ?_ _)); refine blk_far ?_ NB426_428.out _; (with_reducible repeat (first | refine blk_drewN ?_ _ | refine blk_drew ?_ | refine blk_alloc ?_ _)); refine blk_far ?_ NB426_428.out _; (with_reducible repeat (first | refine blk_drewN ?_ _ | refine blk_drew ?_ | refine blk_alloc ?_ _)); refine blk_far ?_ NB426_428.out _; (with_reducible repeat (first | refine blk_drewN ?_ _ | refine blk_drew ?_ | refine blk_alloc ?_ _)); exact BK426.out⟩, ⟨by repeat (first | (with_reducible first | exact HB.out | apply below_alloc | apply pw_below_drewN | apply below_drew1 | refine below_set ?_ GE425.out | refine below_set ?_ GE426.out | refine below_set ?_ GE428.out) | exact HB.out)⟩⟩
          · rw [if_neg c9] at H
            exact absurd H (by simp)
        · rw [if_neg c8] at H
          exact absurd H (by simp)
      · rw [if_neg c7] at H
        have c7b0 : decide (x11_1 < (l0_1.length : Int)) = false := decide_eq_false c7
        clear c7
        simp only [Option.some.injEq, Prod.mk.injEq] at H
        obtain ⟨rfl, rfl, rfl, rfl, rfl, rfl, rfl, rfl, rfl⟩ := H
        have hnb21 := NB426_425.out
        have hnc21 := NB425_426.out
        have hcz22_0 : wr.cell? ⟨gb426, 0, none⟩ = some (.int .i64 x427000_1) := (blk_cell BK426.out 0).trans rfl
        have hcz22_1 : wr.cell? ⟨gb426, 1, none⟩ = some (.int .i64 x427001_1) := (blk_cell BK426.out 1).trans rfl
        have hcz22_2 : wr.cell? ⟨gb426, 2, none⟩ = some (.int .i64 x427002_1) := (blk_cell BK426.out 2).trans rfl
        have hcz22_3 : wr.cell? ⟨gb426, 3, none⟩ = some (.int .i64 x427003_1) := (blk_cell BK426.out 3).trans rfl
        have hcz22_4 : wr.cell? ⟨gb426, 4, none⟩ = some (.int .i64 x427004_1) := (blk_cell BK426.out 4).trans rfl
        have hcz22_5 : wr.cell? ⟨gb426, 5, none⟩ = some (.int .i64 x427005_1) := (blk_cell BK426.out 5).trans rfl
        have hcz22_6 : wr.cell? ⟨gb426, 6, none⟩ = some (.int .i64 x427006_1) := (blk_cell BK426.out 6).trans rfl
        have hcz22_7 : wr.cell? ⟨gb426, 7, none⟩ = some (.int .u8 x427007_1) := (blk_cell BK426.out 7).trans rfl
        have hfz22_0 := blk_frozen BK426.out 0
        have hfz22_1 := blk_frozen BK426.out 1
        have hfz22_2 := blk_frozen BK426.out 2
        have hfz22_3 := blk_frozen BK426.out 3
        have hfz22_4 := blk_frozen BK426.out 4
        have hfz22_5 := blk_frozen BK426.out 5
        have hfz22_6 := blk_frozen BK426.out 6
        have hfz22_7 := blk_frozen BK426.out 7
        go_wp2
        refine bodyPost_ret (results_ct rfl _ _ gb426 23 #[.int .i64 0, .int .i64 0, .int .i64 0, .int .i64 0, .int .i64 0, .int .i64 0, .int .i64 0, .int .u8 0] (0, 0) _ rfl (by (with_reducible repeat (first | refine blk_drewN ?_ _ | refine blk_drew ?_ | refine blk_alloc ?_ _)); refine blk_put (cs := #[.int .i64 0, .int .i64 0, .int .i64 0, .int .i64 0, .int .i64 0, .int .i64 0, .int .i64 0, .int .u8 x427007_1]) ?_ 7 _ rfl; (with_reducible repeat (first | refine blk_drewN ?_ _ | refine blk_drew ?_ | refine blk_alloc ?_ _)); refine blk_put (cs := #[.int .i64 0, .int .i64 0, .int .i64 0, .int .i64 0, .int .i64 0, .int .i64 0, .int .i64 x427006_1, .int .u8 x427007_1]) ?_ 6 _ rfl; (with_reducible repeat (first | refine blk_drewN ?_ _ | refine blk_drew ?_ | refine blk_alloc ?_ _)); refine blk_put (cs := #[.int .i64 0, .int .i64 0, .int .i64 0, .int .i64 0, .int .i64 0, .int .i64 x427005_1, .int .i64 x427006_1, .int .u8 x427007_1]) ?_ 5 _ rfl; (with_reducible repeat (first | refine blk_drewN ?_ _ | refine blk_drew ?_ | refine blk_alloc ?_ _)); refine blk_put (cs := #[.int .i64 0, .int .i64 0, .int .i64 0, .int .i64 0, .int .i64 x427004_1, .int .i64 x427005_1, .int .i64 x427006_1, .int .u8 x427007_1]) ?_ 4 _ rfl; (with_reducible repeat (first | refine blk_drewN ?_ _ | refine blk_drew ?_ | refine blk_alloc ?_ _)); refine blk_put (cs := #[.int .i64 0, .int .i64 0, .int .i64 0, .int .i64 x427003_1, .int .i64 x427004_1, .int .i64 x427005_1, .int .i64 x427006_1, .int .u8 x427007_1]) ?_ 3 _ rfl; (with_reducible repeat (first | refine blk_drewN ?_ _ | refine blk_drew ?_ | refine blk_alloc ?_ _)); refine blk_put (cs := #[.int .i64 0, .int .i64 0, .int .i64 x427002_1, .int .i64 x427003_1, .int .i64 x427004_1, .int .i64 x427005_1, .int .i64 x427006_1, .int .u8 x427007_1]) ?_ 2 _ rfl; (with_reducible repeat (first | refine blk_drewN ?_ _ | refine blk_drew ?_ | refine blk_alloc ?_ _)); refine blk_put (cs := #[.int .i64 0, .int .i64 x427001_1, .int .i64 x427002_1, .int .i64 x427003_1, .int .i64 x427004_1, .int .i64 x427005_1, .int .i64 x427006_1, .int .u8 x427007_1]) ?_ 1 _ rfl; (with_reducible repeat (first | refine blk_drewN ?_ _ | refine blk_drew ?_ | refine blk_alloc ?_ _)); refine blk_put (cs := #[.int .i64 x427000_1, .int .i64 x427001_1, .int .i64 x427002_1, .int .i64 x427003_1, .int .i64 x427004_1, .int .i64 x427005_1, .int .i64 x427006_1, .int .u8 x427007_1]) ?_ 0 _ rfl; (with_reducible repeat (first | refine blk_drewN ?_ _ | refine blk_drew ?_ | refine blk_alloc ?_ _)); exact BK426.out) Try.underlying23 rfl (by kernel_rfl)) rfl ?_
        exact ⟨by first | rfl | (simp [errW_none, errW_some] <;> rfl) | (simp [*, errW_none, errW_some] <;> rfl), by repeat (first | (with_reducible first | exact HB.out | apply below_alloc | apply pw_below_drewN | apply below_drew1 | refine below_set ?_ GE425.out | refine below_set ?_ GE426.out) | exact HB.out)⟩

/-! ### letterbaglaw33_less: function 36 -/
mutual
def letterbaglaw33_less.l0 : Nat → List (S45) → List (S45) → Int → Option (Bool)
  | 0, _, _, _ => none
  | k + 1, x0, x1, x5 => if x5 < (x0.length : Int) then (letterbaglaw33_less.j1 k x0 x1 x5 (decide (x5 < (x1.length : Int)))) else (letterbaglaw33_less.j1 k x0 x1 x5 false)
def letterbaglaw33_less.j1 : Nat → List (S45) → List (S45) → Int → Bool → Option (Bool)
  | 0, _, _, _, _ => none
  | k + 1, x0, x1, x5, x15 => if x15 = true then (if 0 ≤ x5 then (if x5 < (x0.length : Int) then (if x5 < (x1.length : Int) then (if ((rd_T45 x0 x5).f0) = ((rd_T45 x1 x5).f0) then (letterbaglaw33_less.l0 k x0 x1 (wrap64 (x5 + 1))) else (some (decide (((rd_T45 x0 x5).f0) < ((rd_T45 x1 x5).f0))))) else (none)) else (none)) else (none)) else (some (decide ((x0.length : Int) < (x1.length : Int))))
end
def letterbaglaw33_less.f (k : Nat) (l0 : List (S45)) (l1 : List (S45)) : Option (Bool) := letterbaglaw33_less.l0 k l0 l1 0
theorem letterbaglaw33_less.mono_l : ∀ k, (∀ y0 y1 y2, LeO (letterbaglaw33_less.l0 k y0 y1 y2) (letterbaglaw33_less.l0 (k + 1) y0 y1 y2)) ∧ (∀ y0 y1 y2 y3, LeO (letterbaglaw33_less.j1 k y0 y1 y2 y3) (letterbaglaw33_less.j1 (k + 1) y0 y1 y2 y3))
  | 0 => ⟨fun _ _ _ r h => by simp [letterbaglaw33_less.l0] at h, fun _ _ _ _ r h => by simp [letterbaglaw33_less.j1] at h⟩
  | k + 1 => by
    obtain ⟨ih0, ih1⟩ := letterbaglaw33_less.mono_l k
    refine ⟨?_, ?_⟩
    · intro y0 y1 y2
      unfold letterbaglaw33_less.l0
      repeat' first
      | (with_reducible exact ih0 _ _ _)
      | (with_reducible exact ih1 _ _ _ _)
      | (with_reducible exact LeO.refl _)
      | (with_reducible exact LeO.none _)
      | (with_reducible refine LeO.ite ?_ ?_)
      | (with_reducible refine LeO.bind ?_ (fun _ => ?_))
      | exact ih0 _ _ _
      | exact ih1 _ _ _ _
      | exact LeO.none _
      | refine LeO.ite ?_ ?_
      | refine LeO.bind ?_ (fun _ => ?_)
    · intro y0 y1 y2 y3
      unfold letterbaglaw33_less.j1
      repeat' first
      | (with_reducible exact ih0 _ _ _)
      | (with_reducible exact ih1 _ _ _ _)
      | (with_reducible exact LeO.refl _)
      | (with_reducible exact LeO.none _)
      | (with_reducible refine LeO.ite ?_ ?_)
      | (with_reducible refine LeO.bind ?_ (fun _ => ?_))
      | exact ih0 _ _ _
      | exact ih1 _ _ _ _
      | exact LeO.none _
      | refine LeO.ite ?_ ?_
      | refine LeO.bind ?_ (fun _ => ?_)
theorem letterbaglaw33_less.mono : ∀ a0 a1 k, LeO (letterbaglaw33_less.f k a0 a1) (letterbaglaw33_less.f (k + 1) a0 a1) := by
  intro a0 a1 k
  obtain ⟨ih0, ih1⟩ := letterbaglaw33_less.mono_l k
  unfold letterbaglaw33_less.f
  repeat' first
      | (with_reducible exact ih0 _ _ _)
      | (with_reducible exact ih1 _ _ _ _)
      | (with_reducible exact LeO.refl _)
      | (with_reducible exact LeO.none _)
      | (with_reducible refine LeO.ite ?_ ?_)
      | (with_reducible refine LeO.bind ?_ (fun _ => ?_))
      | exact ih0 _ _ _
      | exact ih1 _ _ _ _
      | exact LeO.none _
      | refine LeO.ite ?_ ?_
      | refine LeO.bind ?_ (fun _ => ?_)
set_option maxHeartbeats 8000000 in
set_option maxRecDepth 100000 in
theorem letterbaglaw33_less.calls (k : Nat) (A0 : Option Addr) (c0 : Nat) (l0 : List (S45)) (A1 : Option Addr) (c1 : Nat) (l1 : List (S45)) (r : Bool) (w : World) (hr0 : Kd.C k45 w A0 l0.length l0) (hc0 : l0.length ≤ c0) (hr1 : Kd.C k45 w A1 l1.length l1) (hc1 : l1.length ≤ c1) (h : letterbaglaw33_less.f k l0 l1 = some r) :
    Calls Try.prog 36 #[.slice A0 l0.length c0, .slice A1 l1.length c1] w fun e w' => e = .returned (.bool r) ∧ Drawn0 w w' := by
  have HR0 := Aside0.mk hr0
  have HC0 := Aside0.mk hc0
  clear hr0 hc0
  have HR1 := Aside0.mk hr1
  have HC1 := Aside0.mk hc1
  clear hr1 hc1
  have H : (letterbaglaw33_less.l0 k l0 l1 0) = some r := h
  clear h
  have H' := Aside0.mk H
  clear H
  go_enter Try.func36, Try.ntmps36
  go_wp2
  repeat (go_quiet (fail); try go_wp2)
  go_loopg [5] k (fun kq v5 w' => ∃ (x5_1 : Int), v5 = .int .i64 x5_1 ∧ Aside0 (letterbaglaw33_less.l0 kq l0 l1 x5_1 = some r) ∧ Aside0 (kq ≤ k) ∧ Drawn0 w w')
  case atStart => exact ⟨(0), (by first | rfl | (simp; done) | (simp [*]; done)), H', ⟨Nat.le_refl _⟩, by repeat (first | exact Drawn0.refl _ | apply Drawn0.step)⟩
  case round =>
    clear H'
    try clear c1
    try clear p2
    obtain ⟨x5_1, rfl, HA, HK1, ⟨m1, rfl⟩⟩ := hrel
    cases gk with
    | zero => exact absurd HA.out (by simp [letterbaglaw33_less.l0])
    | succ k1 =>
      have H := HA.out
      clear HA
      simp only [letterbaglaw33_less.l0] at H
      have HC3 := Aside0.mk H
      clear H
      go_upto_region 2 with (fail)
      repeat (go_quiet (fail); go_upto_region 2 with (fail))
      go_cut [15] (fun v15 wc => ∃ (kq : Nat) (x15_2 : Bool), v15 = .bool x15_2 ∧ Aside0 (letterbaglaw33_less.j1 kq l0 l1 x5_1 x15_2 = some r) ∧ Aside0 (kq ≤ k1) ∧ Drawn0 w wc)
      case first =>
        have H := HC3.out
        clear HC3
        by_cases c4 : x5_1 < (l0.length : Int)
        · rw [if_pos c4] at H
          have c4b0 : decide (x5_1 < (l0.length : Int)) = true := decide_eq_true c4
          clear c4
          (first | rw [c4b0] | (simp only [i64_w, i32_w]; rw [c4b0]) | skip)
          have H' := Aside0.mk H
          clear H
          go_wp2
          repeat (go_quiet (fail); try go_wp2)
          go_meet
          case rel => exact ⟨_, (decide (x5_1 < (l1.length : Int))), (by first | rfl | (simp; done) | (simp [*]; done)), H', ⟨by have := HK1.out; first | omega | exact Nat.le_refl _⟩, by repeat (first | exact Drawn0.refl _ | apply Drawn0.step)⟩
        · rw [if_neg c4] at H
          have c4b0 : decide (x5_1 < (l0.length : Int)) = false := decide_eq_false c4
          clear c4
          (first | rw [c4b0] | (simp only [i64_w, i32_w]; rw [c4b0]) | skip)
          have H' := Aside0.mk H
          clear H
          go_wp2
          repeat (go_quiet (fail); try go_wp2)
          go_meet
          case rel => exact ⟨_, (false), (by first | rfl | (simp; done) | (simp [*]; done)), H', ⟨by have := HK1.out; first | omega | exact Nat.le_refl _⟩, by repeat (first | exact Drawn0.refl _ | apply Drawn0.step)⟩
      case rest =>
        clear HC3
        try clear c1
        try clear p2
        try clear c3
        try clear c4
        try clear c4b0
        try clear p2
        obtain ⟨kq, x15_2, rfl, HA, HJ2, ⟨mc2, rfl⟩⟩ := hcut
        cases kq with
        | zero => exact absurd HA.out (by simp [letterbaglaw33_less.j1])
        | succ kj2 =>
          have H := HA.out
          clear HA
          simp only [letterbaglaw33_less.j1] at H
          by_cases c5 : x15_2 = true
          · subst c5
            have H1 : (if 0 ≤ x5_1 then (if x5_1 < (l0.length : Int) then (if x5_1 < (l1.length : Int) then (if ((rd_T45 l0 x5_1).f0) = ((rd_T45 l1 x5_1).f0) then (letterbaglaw33_less.l0 kj2 l0 l1 (wrap64 (x5_1 + 1))) else (some (decide (((rd_T45 l0 x5_1).f0) < ((rd_T45 l1 x5_1).f0))))) else (none)) else (none)) else (none)) = some r := by rw [if_pos rfl] at H; exact H
            clear H
            have H := H1
            clear H1
            by_cases c6 : 0 ≤ x5_1
            · rw [if_pos c6] at H
              have c6b0 : decide (0 ≤ x5_1) = true := decide_eq_true c6
              clear c6
              by_cases c7 : x5_1 < (l0.length : Int)
              · rw [if_pos c7] at H
                have c7b0 : decide (x5_1 < (l0.length : Int)) = true := decide_eq_true c7
                clear c7
                by_cases c8 : x5_1 < (l1.length : Int)
                · rw [if_pos c8] at H
                  have c8b0 : decide (x5_1 < (l1.length : Int)) = true := decide_eq_true c8
                  clear c8
                  by_cases c9 : ((rd_T45 l0 x5_1).f0) = ((rd_T45 l1 x5_1).f0)
                  · rw [if_pos c9] at H
                    have c9b0 : (((rd_T45 l0 x5_1).f0) == ((rd_T45 l1 x5_1).f0)) = true := beq_iff_eq.mpr c9
                    have c9b1 : (((rd_T45 l0 x5_1).f0) != ((rd_T45 l1 x5_1).f0)) = false := bne_eq_false_iff_eq.mpr c9
                    clear c9
                    have H' := Aside0.mk H
                    clear H
                    have p429 : 0 ≤ (x5_1 : Int) := of_decide_eq_true (by first | (with_reducible assumption) | assumption)
                    have q429 : x5_1 < (l0.length : Int) := of_decide_eq_true (by first | (with_reducible assumption) | assumption)
                    obtain ⟨ad429, e429, hx429_0, hx429_1, hx429_2⟩ := at_T45 HR0.out x5_1 p429 q429
                    cases e429
                    replace p429 := eq_true p429
                    replace q429 := eq_true q429
                    have p430 : 0 ≤ (x5_1 : Int) := of_decide_eq_true (by first | (with_reducible assumption) | assumption)
                    have q430 : x5_1 < (l1.length : Int) := of_decide_eq_true (by first | (with_reducible assumption) | assumption)
                    obtain ⟨ad430, e430, hx430_0, hx430_1, hx430_2⟩ := at_T45 HR1.out x5_1 p430 q430
                    cases e430
                    replace p430 := eq_true p430
                    replace q430 := eq_true q430
                    go_wp2
                    repeat (go_quiet (fail); try go_wp2)
                    go_roundg kj2
                    case measure => have := HK1.out; have := HJ2.out; omega
                    case rel => exact ⟨(wrap64 (x5_1 + 1)), (by first | rfl | (simp; done) | (simp [*]; done)), H', ⟨by have := HK1.out; have := HJ2.out; omega⟩, by repeat (first | exact Drawn0.refl _ | apply Drawn0.step)⟩
                  · rw [if_neg c9] at H
                    have c9b0 : (((rd_T45 l0 x5_1).f0) == ((rd_T45 l1 x5_1).f0)) = false := beq_eq_false_iff_ne.mpr c9
                    have c9b1 : (((rd_T45 l0 x5_1).f0) != ((rd_T45 l1 x5_1).f0)) = true := bne_iff_ne.mpr c9
                    obtain rfl := Option.some.inj H
                    have p429 : 0 ≤ (x5_1 : Int) := of_decide_eq_true (by first | (with_reducible assumption) | assumption)
                    have q429 : x5_1 < (l0.length : Int) := of_decide_eq_true (by first | (with_reducible assumption) | assumption)
                    obtain ⟨ad429, e429, hx429_0, hx429_1, hx429_2⟩ := at_T45 HR0.out x5_1 p429 q429
                    cases e429
                    replace p429 := eq_true p429
                    replace q429 := eq_true q429
                    have p430 : 0 ≤ (x5_1 : Int) := of_decide_eq_true (by first | (with_reducible assumption) | assumption)
                    have q430 : x5_1 < (l1.length : Int) := of_decide_eq_true (by first | (with_reducible assumption) | assumption)
                    obtain ⟨ad430, e430, hx430_0, hx430_1, hx430_2⟩ := at_T45 HR1.out x5_1 p430 q430
                    cases e430
                    replace p430 := eq_true p430
                    replace q430 := eq_true q430
                    have p431 : 0 ≤ (x5_1 : Int) := of_decide_eq_true (by first | (with_reducible assumption) | assumption)
                    have q431 : x5_1 < (l0.length : Int) := of_decide_eq_true (by first | (with_reducible assumption) | assumption)
                    obtain ⟨ad431, e431, hx431_0, hx431_1, hx431_2⟩ := at_T45 HR0.out x5_1 p431 q431
                    obtain rfl : ad429 = ad431 := (by injection e431)
                    replace p431 := eq_true p431
                    replace q431 := eq_true q431
                    have p432 : 0 ≤ (x5_1 : Int) := of_decide_eq_true (by first | (with_reducible assumption) | assumption)
                    have q432 : x5_1 < (l1.length : Int) := of_decide_eq_true (by first | (with_reducible assumption) | assumption)
                    obtain ⟨ad432, e432, hx432_0, hx432_1, hx432_2⟩ := at_T45 HR1.out x5_1 p432 q432
                    obtain rfl : ad430 = ad432 := (by injection e432)
                    replace p432 := eq_true p432
                    replace q432 := eq_true q432
                    go_wp2
                    repeat (go_quiet (fail); try go_wp2)
                    go_ret
                    exact ⟨by first | rfl | (simp; done) | (simp [*]; done), by repeat (first | exact Drawn0.refl _ | apply Drawn0.step)⟩
                · rw [if_neg c8] at H
                  exact absurd H (by simp)
              · rw [if_neg c7] at H
                exact absurd H (by simp)
            · rw [if_neg c6] at H
              exact absurd H (by simp)
          · replace c5 := Bool.eq_false_iff.mpr c5
            subst c5
            have H1 : (some (decide ((l0.length : Int) < (l1.length : Int)))) = some r := by rw [if_neg (show ¬ (false = true) by decide)] at H; exact H
            clear H
            have H := H1
            clear H1
            obtain rfl := Option.some.inj H
            go_wp2
            repeat (go_quiet (fail); try go_wp2)
            go_ret
            exact ⟨by first | rfl | (simp; done) | (simp [*]; done), by repeat (first | exact Drawn0.refl _ | apply Drawn0.step)⟩

-- NOT PRINTED: function 9 (letterbaglaw33_RouteLeast)

end Go.Proofs.Ytdpadeklociinaa.PA
