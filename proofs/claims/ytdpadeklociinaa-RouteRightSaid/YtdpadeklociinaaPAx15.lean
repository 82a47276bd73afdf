-- Written by a program of ours (wip/tools), by way of the print
import Derived.Test.YtdpadeklociinaaPAx0
namespace Go.Proofs.Ytdpadeklociinaa.PA
open Go.RowKit Go.Proofs.YtdpadeklociinaaW.PrintWords Go.Proofs.YtdpadeklociinaaW.PrintLast Go.Proofs.YtdpadeklociinaaW.PrintMore
attribute [local go_sem] max2_int min2_int max_two min_two max_three min_three max_four min_four   -- for this text's walks alone
set_option linter.unusedVariables false
set_option linter.unusedSimpArgs false

/-! ### letterbagref32_in: function 100 -/
def letterbagref32_in.f (a0 : Int) (a1 : Int) (a2 : Int) : Option (Bool) := if a0 ≥ a1 then (some (decide (a0 ≤ a2))) else (some false)
set_option maxHeartbeats 8000000 in
set_option maxRecDepth 100000 in
theorem letterbagref32_in.calls (a0 : Int) (a1 : Int) (a2 : Int) (r : Bool) (w : World) (h : letterbagref32_in.f a0 a1 a2 = some r) :
    Calls Try.prog 100 #[.int .i64 a0, .int .i64 a1, .int .i64 a2] w fun e w' => e = .returned (.bool r) ∧ Drawn0 w w' := by
  have H : (if a0 ≥ a1 then (some (decide (a0 ≤ a2))) else (some false)) = some r := h
  clear h
  by_cases c4 : a0 ≥ a1
  · rw [if_pos c4] at H
    have c4b0 : decide (a1 ≤ a0) = true := decide_eq_true c4
    clear c4
    obtain rfl := Option.some.inj H
    go_enter Try.func100, Try.ntmps100
    go_wp2
    go_ret
    exact ⟨by first | rfl | (simp; done) | (simp [*]; done), by repeat (first | exact Drawn0.refl _ | apply Drawn0.step)⟩
  · rw [if_neg c4] at H
    have c4b0 : decide (a1 ≤ a0) = false := decide_eq_false c4
    clear c4
    obtain rfl := Option.some.inj H
    go_enter Try.func100, Try.ntmps100
    go_wp2
    go_ret
    exact ⟨by first | rfl | (simp; done) | (simp [*]; done), by repeat (first | exact Drawn0.refl _ | apply Drawn0.step)⟩

/-! ### letterbagref32_Right: function 99 -/
def letterbagref32_Right.f (a0_0 : Int) (a0_1 : Int) (a0_2 : Int) (a0_3 : Int) (a0_4 : Int) (a0_5 : Int) (a0_6 : Int) (a0_7 : Int) : Option (Bool) := (letterbagref32_in.f a0_0 1 999999).bind fun t499 => (if t499 = true then ((letterbagref32_in.f a0_1 1 999999).bind fun t500 => (if t500 = true then ((letterbagref32_in.f a0_2 1 999999).bind fun t501 => (if t501 = true then (if a0_1 = a0_2 then (some false) else ((letterbagref32_in.f a0_3 0 1439).bind fun t502 => (if t502 = true then ((letterbagref32_in.f a0_4 1 20160).bind fun t503 => (if t503 = true then ((letterbagref32_in.f a0_5 0 10080).bind fun t504 => (if t504 = true then ((letterbagref32_in.f a0_6 0 1000000000).bind fun t505 => (if t505 = true then (if a0_7 ≥ 1 then (some (decide (a0_7 ≤ 127))) else (some false)) else (some false))) else (some false))) else (some false))) else (some false)))) else (some false))) else (some false))) else (some false))
set_option maxHeartbeats 8000000 in
set_option maxRecDepth 100000 in
theorem letterbagref32_Right.calls (a0_0 : Int) (a0_1 : Int) (a0_2 : Int) (a0_3 : Int) (a0_4 : Int) (a0_5 : Int) (a0_6 : Int) (a0_7 : Int) (r : Bool) (w : World) (h : letterbagref32_Right.f a0_0 a0_1 a0_2 a0_3 a0_4 a0_5 a0_6 a0_7 = some r) :
    Calls Try.prog 99 #[.agg #[.int .i64 a0_0, .int .i64 a0_1, .int .i64 a0_2, .int .i64 a0_3, .int .i64 a0_4, .int .i64 a0_5, .int .i64 a0_6, .int .u8 a0_7]] w fun e w' => e = .returned (.bool r) ∧ Below w.heap.size w w' := by
  have hu23 := Try.underlying23
  have HB := Aside0.mk (Below.refl w.heap.size w)
  have H : ((letterbagref32_in.f a0_0 1 999999).bind fun t499 => (if t499 = true then ((letterbagref32_in.f a0_1 1 999999).bind fun t500 => (if t500 = true then ((letterbagref32_in.f a0_2 1 999999).bind fun t501 => (if t501 = true then (if a0_1 = a0_2 then (some false) else ((letterbagref32_in.f a0_3 0 1439).bind fun t502 => (if t502 = true then ((letterbagref32_in.f a0_4 1 20160).bind fun t503 => (if t503 = true then ((letterbagref32_in.f a0_5 0 10080).bind fun t504 => (if t504 = true then ((letterbagref32_in.f a0_6 0 1000000000).bind fun t505 => (if t505 = true then (if a0_7 ≥ 1 then (some (decide (a0_7 ≤ 127))) else (some false)) else (some false))) else (some false))) else (some false))) else (some false)))) else (some false))) else (some false))) else (some false))) = some r := h
  clear h
  replace H := Option.bind_eq_some_iff.mp H
  obtain ⟨t499, A20, H⟩ := H
  replace H : (if t499 = true then ((letterbagref32_in.f a0_1 1 999999).bind fun t500 => (if t500 = true then ((letterbagref32_in.f a0_2 1 999999).bind fun t501 => (if t501 = true then (if a0_1 = a0_2 then (some false) else ((letterbagref32_in.f a0_3 0 1439).bind fun t502 => (if t502 = true then ((letterbagref32_in.f a0_4 1 20160).bind fun t503 => (if t503 = true then ((letterbagref32_in.f a0_5 0 10080).bind fun t504 => (if t504 = true then ((letterbagref32_in.f a0_6 0 1000000000).bind fun t505 => (if t505 = true then (if a0_7 ≥ 1 then (some (decide (a0_7 ≤ 127))) else (some false)) else (some false))) else (some false))) else (some false))) else (some false)))) else (some false))) else (some false))) else (some false)) = some r := H
  have A2 := Aside0.mk A20
  clear A20
  by_cases c3 : t499 = true
  · subst c3
    have H1 : ((letterbagref32_in.f a0_1 1 999999).bind fun t500 => (if t500 = true then ((letterbagref32_in.f a0_2 1 999999).bind fun t501 => (if t501 = true then (if a0_1 = a0_2 then (some false) else ((letterbagref32_in.f a0_3 0 1439).bind fun t502 => (if t502 = true then ((letterbagref32_in.f a0_4 1 20160).bind fun t503 => (if t503 = true then ((letterbagref32_in.f a0_5 0 10080).bind fun t504 => (if t504 = true then ((letterbagref32_in.f a0_6 0 1000000000).bind fun t505 => (if t505 = true then (if a0_7 ≥ 1 then (some (decide (a0_7 ≤ 127))) else (some false)) else (some false))) else (some false))) else (some false))) else (some false)))) else (some false))) else (some false))) = some r := by rw [if_pos rfl] at H; exact H
    clear H
    have H := H1
    clear H1
    replace H := Option.bind_eq_some_iff.mp H
    obtain ⟨t500, A40, H⟩ := H
    replace H : (if t500 = true then ((letterbagref32_in.f a0_2 1 999999).bind fun t501 => (if t501 = true then (if a0_1 = a0_2 then (some false) else ((letterbagref32_in.f a0_3 0 1439).bind fun t502 => (if t502 = true then ((letterbagref32_in.f a0_4 1 20160).bind fun t503 => (if t503 = true then ((letterbagref32_in.f a0_5 0 10080).bind fun t504 => (if t504 = true then ((letterbagref32_in.f a0_6 0 1000000000).bind fun t505 => (if t505 = true then (if a0_7 ≥ 1 then (some (decide (a0_7 ≤ 127))) else (some false)) else (some false))) else (some false))) else (some false))) else (some false)))) else (some false))) else (some false)) = some r := H
    have A4 := Aside0.mk A40
    clear A40
    by_cases c5 : t500 = true
    · subst c5
      have H1 : ((letterbagref32_in.f a0_2 1 999999).bind fun t501 => (if t501 = true then (if a0_1 = a0_2 then (some false) else ((letterbagref32_in.f a0_3 0 1439).bind fun t502 => (if t502 = true then ((letterbagref32_in.f a0_4 1 20160).bind fun t503 => (if t503 = true then ((letterbagref32_in.f a0_5 0 10080).bind fun t504 => (if t504 = true then ((letterbagref32_in.f a0_6 0 1000000000).bind fun t505 => (if t505 = true then (if a0_7 ≥ 1 then (some (decide (a0_7 ≤ 127))) else (some false)) else (some false))) else (some false))) else (some false))) else (some false)))) else (some false))) = some r := by rw [if_pos rfl] at H; exact H
      clear H
      have H := H1
      clear H1
      replace H := Option.bind_eq_some_iff.mp H
      obtain ⟨t501, A60, H⟩ := H
      replace H : (if t501 = true then (if a0_1 = a0_2 then (some false) else ((letterbagref32_in.f a0_3 0 1439).bind fun t502 => (if t502 = true then ((letterbagref32_in.f a0_4 1 20160).bind fun t503 => (if t503 = true then ((letterbagref32_in.f a0_5 0 10080).bind fun t504 => (if t504 = true then ((letterbagref32_in.f a0_6 0 1000000000).bind fun t505 => (if t505 = true then (if a0_7 ≥ 1 then (some (decide (a0_7 ≤ 127))) else (some false)) else (some false))) else (some false))) else (some false))) else (some false)))) else (some false)) = some r := H
      have A6 := Aside0.mk A60
      clear A60
      by_cases c7 : t501 = true
      · subst c7
        have H1 : (if a0_1 = a0_2 then (some false) else ((letterbagref32_in.f a0_3 0 1439).bind fun t502 => (if t502 = true then ((letterbagref32_in.f a0_4 1 20160).bind fun t503 => (if t503 = true then ((letterbagref32_in.f a0_5 0 10080).bind fun t504 => (if t504 = true then ((letterbagref32_in.f a0_6 0 1000000000).bind fun t505 => (if t505 = true then (if a0_7 ≥ 1 then (some (decide (a0_7 ≤ 127))) else (some false)) else (some false))) else (some false))) else (some false))) else (some false)))) = some r := by rw [if_pos rfl] at H; exact H
        clear H
        have H := H1
        clear H1
        by_cases c8 : a0_1 = a0_2
        · rw [if_pos c8] at H
          have c8b0 : (a0_1 == a0_2) = true := beq_iff_eq.mpr c8
          have c8b1 : (a0_1 != a0_2) = false := bne_eq_false_iff_eq.mpr c8
          clear c8
          obtain rfl := Option.some.inj H
          go_enter Try.func99, Try.ntmps99
          go_wp2_with (first | ((with_reducible refine gate_dst (N := 1) rfl ?_); refine box_event ?hg (N := 1) ?hd (cs := #[.int .i64 a0_0, .int .i64 a0_1, .int .i64 a0_2, .int .i64 a0_3, .int .i64 a0_4, .int .i64 a0_5, .int .i64 a0_6, .int .u8 a0_7]) (t := 23) ?hr ?_; (case hd => rfl); (case hg => rfl); (case hr => first | (go_simp; done) | (go_simp; rfl)); intro gb498 hg w9 hbox hb; have n0_ := Aside0.mk (below_step (by repeat (first | (with_reducible first | exact HB.out | apply below_alloc | apply pw_below_drewN | apply below_drew1) | exact HB.out)) hb); have n1_ := Aside0.mk (hbox); have n2_ := Aside0.mk ((by rw [hg]; exact (below_size (by repeat (first | (with_reducible first | exact HB.out | apply below_alloc | apply pw_below_drewN | apply below_drew1) | exact HB.out))) : w.heap.size ≤ gb498)); have n3_ := Aside0.mk ((by rw [hg]; exact (below_size (by repeat (first | (with_reducible first | exact HB.out | apply below_alloc | apply pw_below_drewN | apply below_drew1) | exact HB.out))) : w.heap.size ≤ gb498)); clear HB; have HB := n0_; have BK498 := n1_; have GW498 := n2_; have GE498 := n3_; clear n0_ n1_ n2_ n3_; clear hb hbox hg; have hcz10_0 : w9.cell? ⟨gb498, 0, none⟩ = some (.int .i64 a0_0) := (blk_cell BK498.out 0).trans rfl; have hcz10_1 : w9.cell? ⟨gb498, 1, none⟩ = some (.int .i64 a0_1) := (blk_cell BK498.out 1).trans rfl; have hcz10_2 : w9.cell? ⟨gb498, 2, none⟩ = some (.int .i64 a0_2) := (blk_cell BK498.out 2).trans rfl; have hcz10_3 : w9.cell? ⟨gb498, 3, none⟩ = some (.int .i64 a0_3) := (blk_cell BK498.out 3).trans rfl; have hcz10_4 : w9.cell? ⟨gb498, 4, none⟩ = some (.int .i64 a0_4) := (blk_cell BK498.out 4).trans rfl; have hcz10_5 : w9.cell? ⟨gb498, 5, none⟩ = some (.int .i64 a0_5) := (blk_cell BK498.out 5).trans rfl; have hcz10_6 : w9.cell? ⟨gb498, 6, none⟩ = some (.int .i64 a0_6) := (blk_cell BK498.out 6).trans rfl; have hcz10_7 : w9.cell? ⟨gb498, 7, none⟩ = some (.int .u8 a0_7) := (blk_cell BK498.out 7).trans rfl; have hfz10_0 := blk_frozen BK498.out 0; have hfz10_1 := blk_frozen BK498.out 1; have hfz10_2 := blk_frozen BK498.out 2; have hfz10_3 := blk_frozen BK498.out 3; have hfz10_4 := blk_frozen BK498.out 4; have hfz10_5 := blk_frozen BK498.out 5; have hfz10_6 := blk_frozen BK498.out 6; have hfz10_7 := blk_frozen BK498.out 7) | ((with_reducible refine gate_callee (f := 100) rfl ?_); refine goesL_ (some 5) rfl rfl Try.func100 (by kernel_rfl) rfl #[.int .i64 a0_0, .int .i64 1, .int .i64 999999] rfl (by (try simp only [List.map_toArray, List.map_cons, List.map_nil]); first | done | rfl | (simp only [List.length_drop, List.length_take]; rfl)) ?_; (with_reducible refine (letterbagref32_in.calls a0_0 1 999999 true _ A2.out).mono ?_); rintro e w' ⟨rfl, ⟨nd, rfl⟩⟩; refine ⟨_, rfl, ?_⟩) | (go_at_call 100; (with_reducible refine (letterbagref32_in.calls a0_1 1 999999 true _ A4.out).mono ?_); rintro e w' ⟨rfl, ⟨nd, rfl⟩⟩) | (go_at_call 100; (with_reducible refine (letterbagref32_in.calls a0_2 1 999999 true _ A6.out).mono ?_); rintro e w' ⟨rfl, ⟨nd, rfl⟩⟩))
          go_ret
          exact ⟨by first | rfl | (simp [errW_none, errW_some] <;> rfl) | (simp [*, errW_none, errW_some] <;> rfl), by repeat (first | (with_reducible first | exact HB.out | apply below_alloc | apply pw_below_drewN | apply below_drew1 | refine below_set ?_ GE498.out) | exact HB.out)⟩
        · rw [if_neg c8] at H
          have c8b0 : (a0_1 == a0_2) = false := beq_eq_false_iff_ne.mpr c8
          have c8b1 : (a0_1 != a0_2) = true := bne_iff_ne.mpr c8
          replace H := Option.bind_eq_some_iff.mp H
          obtain ⟨t502, A110, H⟩ := H
          replace H : (if t502 = true then ((letterbagref32_in.f a0_4 1 20160).bind fun t503 => (if t503 = true then ((letterbagref32_in.f a0_5 0 10080).bind fun t504 => (if t504 = true then ((letterbagref32_in.f a0_6 0 1000000000).bind fun t505 => (if t505 = true then (if a0_7 ≥ 1 then (some (decide (a0_7 ≤ 127))) else (some false)) else (some false))) else (some false))) else (some false))) else (some false)) = some r := H
          have A11 := Aside0.mk A110
          clear A110
          by_cases c12 : t502 = true
          · subst c12
            have H1 : ((letterbagref32_in.f a0_4 1 20160).bind fun t503 => (if t503 = true then ((letterbagref32_in.f a0_5 0 10080).bind fun t504 => (if t504 = true then ((letterbagref32_in.f a0_6 0 1000000000).bind fun t505 => (if t505 = true then (if a0_7 ≥ 1 then (some (decide (a0_7 ≤ 127))) else (some false)) else (some false))) else (some false))) else (some false))) = some r := by rw [if_pos rfl] at H; exact H
            clear H
            have H := H1
            clear H1
            replace H := Option.bind_eq_some_iff.mp H
            obtain ⟨t503, A130, H⟩ := H
            replace H : (if t503 = true then ((letterbagref32_in.f a0_5 0 10080).bind fun t504 => (if t504 = true then ((letterbagref32_in.f a0_6 0 1000000000).bind fun t505 => (if t505 = true then (if a0_7 ≥ 1 then (some (decide (a0_7 ≤ 127))) else (some false)) else (some false))) else (some false))) else (some false)) = some r := H
            have A13 := Aside0.mk A130
            clear A130
            by_cases c14 : t503 = true
            · subst c14
              have H1 : ((letterbagref32_in.f a0_5 0 10080).bind fun t504 => (if t504 = true then ((letterbagref32_in.f a0_6 0 1000000000).bind fun t505 => (if t505 = true then (if a0_7 ≥ 1 then (some (decide (a0_7 ≤ 127))) else (some false)) else (some false))) else (some false))) = some r := by rw [if_pos rfl] at H; exact H
              clear H
              have H := H1
              clear H1
              replace H := Option.bind_eq_some_iff.mp H
              obtain ⟨t504, A150, H⟩ := H
              replace H : (if t504 = true then ((letterbagref32_in.f a0_6 0 1000000000).bind fun t505 => (if t505 = true then (if a0_7 ≥ 1 then (some (decide (a0_7 ≤ 127))) else (some false)) else (some false))) else (some false)) = some r := H
              have A15 := Aside0.mk A150
              clear A150
              by_cases c16 : t504 = true
              · subst c16
                have H1 : ((letterbagref32_in.f a0_6 0 1000000000).bind fun t505 => (if t505 = true then (if a0_7 ≥ 1 then (some (decide (a0_7 ≤ 127))) else (some false)) else (some false))) = some r := by rw [if_pos rfl] at H; exact H
                clear H
                have H := H1
                clear H1
                replace H := Option.bind_eq_some_iff.mp H
                obtain ⟨t505, A170, H⟩ := H
                replace H : (if t505 = true then (if a0_7 ≥ 1 then (some (decide (a0_7 ≤ 127))) else (some false)) else (some false)) = some r := H
                have A17 := Aside0.mk A170
                clear A170
                by_cases c18 : t505 = true
                · subst c18
                  have H1 : (if a0_7 ≥ 1 then (some (decide (a0_7 ≤ 127))) else (some false)) = some r := by rw [if_pos rfl] at H; exact H
                  clear H
                  have H := H1
                  clear H1
                  by_cases c19 : a0_7 ≥ 1
                  · rw [if_pos c19] at H
                    have c19b0 : decide (1 ≤ a0_7) = true := decide_eq_true c19
                    clear c19
                    obtain rfl := Option.some.inj H
                    go_enter Try.func99, Try.ntmps99
                    go_wp2_with (first | ((with_reducible refine gate_dst (N := 1) rfl ?_); refine box_event ?hg (N := 1) ?hd (cs := #[.int .i64 a0_0, .int .i64 a0_1, .int .i64 a0_2, .int .i64 a0_3, .int .i64 a0_4, .int .i64 a0_5, .int .i64 a0_6, .int .u8 a0_7]) (t := 23) ?hr ?_; (case hd => rfl); (case hg => rfl); (case hr => first | (go_simp; done) | (go_simp; rfl)); intro gb498 hg w20 hbox hb; have n0_ := Aside0.mk (below_step (by repeat (first | (with_reducible first | exact HB.out | apply below_alloc | apply pw_below_drewN | apply below_drew1) | exact HB.out)) hb); have n1_ := Aside0.mk (hbox); have n2_ := Aside0.mk ((by rw [hg]; exact (below_size (by repeat (first | (with_reducible first | exact HB.out | apply below_alloc | apply pw_below_drewN | apply below_drew1) | exact HB.out))) : w.heap.size ≤ gb498)); have n3_ := Aside0.mk ((by rw [hg]; exact (below_size (by repeat (first | (with_reducible first | exact HB.out | apply below_alloc | apply pw_below_drewN | apply below_drew1) | exact HB.out))) : w.heap.size ≤ gb498)); clear HB; have HB := n0_; have BK498 := n1_; have GW498 := n2_; have GE498 := n3_; clear n0_ n1_ n2_ n3_; clear hb hbox hg; have hcz21_0 : w20.cell? ⟨gb498, 0, none⟩ = some (.int .i64 a0_0) := (blk_cell BK498.out 0).trans rfl; have hcz21_1 : w20.cell? ⟨gb498, 1, none⟩ = some (.int .i64 a0_1) := (blk_cell BK498.out 1).trans rfl; have hcz21_2 : w20.cell? ⟨gb498, 2, none⟩ = some (.int .i64 a0_2) := (blk_cell BK498.out 2).trans rfl; have hcz21_3 : w20.cell? ⟨gb498, 3, none⟩ = some (.int .i64 a0_3) := (blk_cell BK498.out 3).trans rfl; have hcz21_4 : w20.cell? ⟨gb498, 4, none⟩ = some (.int .i64 a0_4) := (blk_cell BK498.out 4).trans rfl; have hcz21_5 : w20.cell? ⟨gb498, 5, none⟩ = some (.int .i64 a0_5) := (blk_cell BK498.out 5).trans rfl; have hcz21_6 : w20.cell? ⟨gb498, 6, none⟩ = some (.int .i64 a0_6) := (blk_cell BK498.out 6).trans rfl; have hcz21_7 : w20.cell? ⟨gb498, 7, none⟩ = some (.int .u8 a0_7) := (blk_cell BK498.out 7).trans rfl; have hfz21_0 := blk_frozen BK498.out 0; have hfz21_1 := blk_frozen BK498.out 1; have hfz21_2 := blk_frozen BK498.out 2; have hfz21_3 := blk_frozen BK498.out 3; have hfz21_4 := blk_frozen BK498.out 4; have hfz21_5 := blk_frozen BK498.out 5; have hfz21_6 := blk_frozen BK498.out 6; have hfz21_7 := blk_frozen BK498.out 7) | ((with_reducible refine gate_callee (f := 100) rfl ?_); refine goesL_ (some 5) rfl rfl Try.func100 (by kernel_rfl) rfl #[.int .i64 a0_0, .int .i64 1, .int .i64 999999] rfl (by (try simp only [List.map_toArray, List.map_cons, List.map_nil]); first | done | rfl | (simp only [List.length_drop, List.length_take]; rfl)) ?_; (with_reducible refine (letterbagref32_in.calls a0_0 1 999999 true _ A2.out).mono ?_); rintro e w' ⟨rfl, ⟨nd, rfl⟩⟩; refine ⟨_, rfl, ?_⟩) | (go_at_call 100; (with_reducible refine (letterbagref32_in.calls a0_1 1 999999 true _ A4.out).mono ?_); rintro e w' ⟨rfl, ⟨nd, rfl⟩⟩) | (go_at_call 100; (with_reducible refine (letterbagref32_in.calls a0_2 1 999999 true _ A6.out).mono ?_); rintro e w' ⟨rfl, ⟨nd, rfl⟩⟩) | (go_at_call 100; (with_reducible refine (letterbagref32_in.calls a0_3 0 1439 true _ A11.out).mono ?_); rintro e w' ⟨rfl, ⟨nd, rfl⟩⟩) | (go_at_call 100; (with_reducible refine (letterbagref32_in.calls a0_4 1 20160 true _ A13.out).mono ?_); rintro e w' ⟨rfl, ⟨nd, rfl⟩⟩) | (go_at_call 100; (with_reducible refine (letterbagref32_in.calls a0_5 0 10080 true _ A15.out).mono ?_); rintro e w' ⟨rfl, ⟨nd, rfl⟩⟩) | (go_at_call 100; (with_reducible refine (letterbagref32_in.calls a0_6 0 1000000000 true _ A17.out).mono ?_); rintro e w' ⟨rfl, ⟨nd, rfl⟩⟩))
                    go_ret
                    exact ⟨by first | rfl | (simp [errW_none, errW_some] <;> rfl) | (simp [*, errW_none, errW_some] <;> rfl), by repeat (first | (with_reducible first | exact HB.out | apply below_alloc | apply pw_below_drewN | apply below_drew1 | refine below_set ?_ GE498.out) | exact HB.out)⟩
                  · rw [if_neg c19] at H
                    have c19b0 : decide (1 ≤ a0_7) = false := decide_eq_false c19
                    clear c19
                    obtain rfl := Option.some.inj H
                    go_enter Try.func99, Try.ntmps99
                    go_wp2_with (first | ((with_reducible refine gate_dst (N := 1) rfl ?_); refine box_event ?hg (N := 1) ?hd (cs := #[.int .i64 a0_0, .int .i64 a0_1, .int .i64 a0_2, .int .i64 a0_3, .int .i64 a0_4, .int .i64 a0_5, .int .i64 a0_6, .int .u8 a0_7]) (t := 23) ?hr ?_; (case hd => rfl); (case hg => rfl); (case hr => first | (go_simp; done) | (go_simp; rfl)); intro gb498 hg w22 hbox hb; have n0_ := Aside0.mk (below_step (by repeat (first | (with_reducible first | exact HB.out | apply below_alloc | apply pw_below_drewN | apply below_drew1) | exact HB.out)) hb); have n1_ := Aside0.mk (hbox); have n2_ := Aside0.mk ((by rw [hg]; exact (below_size (by repeat (first | (with_reducible first | exact HB.out | apply below_alloc | apply pw_below_drewN | apply below_drew1) | exact HB.out))) : w.heap.size ≤ gb498)); have n3_ := Aside0.mk ((by rw [hg]; exact (below_size (by repeat (first | (with_reducible first | exact HB.out | apply below_alloc | apply pw_below_drewN | apply below_drew1) | exact HB.out))) : w.heap.size ≤ gb498)); clear HB; have HB := n0_; have BK498 := n1_; have GW498 := n2_; have GE498 := n3_; clear n0_ n1_ n2_ n3_; clear hb hbox hg; have hcz23_0 : w22.cell? ⟨gb498, 0, none⟩ = some (.int .i64 a0_0) := (blk_cell BK498.out 0).trans rfl; have hcz23_1 : w22.cell? ⟨gb498, 1, none⟩ = some (.int .i64 a0_1) := (blk_cell BK498.out 1).trans rfl; have hcz23_2 : w22.cell? ⟨gb498, 2, none⟩ = some (.int .i64 a0_2) := (blk_cell BK498.out 2).trans rfl; have hcz23_3 : w22.cell? ⟨gb498, 3, none⟩ = some (.int .i64 a0_3) := (blk_cell BK498.out 3).trans rfl; have hcz23_4 : w22.cell? ⟨gb498, 4, none⟩ = some (.int .i64 a0_4) := (blk_cell BK498.out 4).trans rfl; have hcz23_5 : w22.cell? ⟨gb498, 5, none⟩ = some (.int .i64 a0_5) := (blk_cell BK498.out 5).trans rfl; have hcz23_6 : w22.cell? ⟨gb498, 6, none⟩ = some (.int .i64 a0_6) := (blk_cell BK498.out 6).trans rfl; have hcz23_7 : w22.cell? ⟨gb498, 7, none⟩ = some (.int .u8 a0_7) := (blk_cell BK498.out 7).trans rfl; have hfz23_0 := blk_frozen BK498.out 0; have hfz23_1 := blk_frozen BK498.out 1; have hfz23_2 := blk_frozen BK498.out 2; have hfz23_3 := blk_frozen BK498.out 3; have hfz23_4 := blk_frozen BK498.out 4; have hfz23_5 := blk_frozen BK498.out 5; have hfz23_6 := blk_frozen BK498.out 6; have hfz23_7 := blk_frozen BK498.out 7) | ((with_reducible refine gate_callee (f := 100) rfl ?_); refine goesL_ (some 5) rfl rfl Try.func100 (by kernel_rfl) rfl #[.int .i64 a0_0, .int .i64 1, .int .i64 999999] rfl (by (try simp only [List.map_toArray, List.map_cons, List.map_nil]); first | done | rfl | (simp only [List.length_drop, List.length_take]; rfl)) ?_; (with_reducible refine (letterbagref32_in.calls a0_0 1 999999 true _ A2.out).mono ?_); rintro e w' ⟨rfl, ⟨nd, rfl⟩⟩; refine ⟨_, rfl, ?_⟩) | (go_at_call 100; (with_reducible refine (letterbagref32_in.calls a0_1 1 999999 true _ A4.out).mono ?_); rintro e w' ⟨rfl, ⟨nd, rfl⟩⟩) | (go_at_call 100; (with_reducible refine (letterbagref32_in.calls a0_2 1 999999 true _ A6.out).mono ?_); rintro e w' ⟨rfl, ⟨nd, rfl⟩⟩) | (go_at_call 100; (with_reducible refine (letterbagref32_in.calls a0_3 0 1439 true _ A11.out).mono ?_); rintro e w' ⟨rfl, ⟨nd, rfl⟩⟩) | (go_at_call 100; (with_reducible refine (letterbagref32_in.calls a0_4 1 20160 true _ A13.out).mono ?_); rintro e w' ⟨rfl, ⟨nd, rfl⟩⟩) | (go_at_call 100; (with_reducible refine (letterbagref32_in.calls a0_5 0 10080 true _ A15.out).mono ?_); rintro e w' ⟨rfl, ⟨nd, rfl⟩⟩) | (go_at_call 100; (with_reducible refine (letterbagref32_in.calls a0_6 0 1000000000 true _ A17.out).mono ?_); rintro e w' ⟨rfl, ⟨nd, rfl⟩⟩))
                    go_ret
                    exact ⟨by first | rfl | (simp [errW_none, errW_some] <;> rfl) | (simp [*, errW_none, errW_some] <;> rfl), by repeat (first | (with_reducible first | exact HB.out | apply below_alloc | apply pw_below_drewN | apply below_drew1 | refine below_set ?_ GE498.out) | exact HB.out)⟩
                · replace c18 := Bool.eq_false_iff.mpr c18
                  subst c18
                  have H1 : (some false) = some r := by rw [if_neg (show ¬ (false = true) by decide)] at H; exact H
                  clear H
                  have H := H1
                  clear H1
                  obtain rfl := Option.some.inj H
                  go_enter Try.func99, Try.ntmps99
                  go_wp2_with (first | ((with_reducible refine gate_dst (N := 1) rfl ?_); refine box_event ?hg (N := 1) ?hd (cs := #[.int .i64 a0_0, .int .i64 a0_1, .int .i64 a0_2, .int .i64 a0_3, .int .i64 a0_4, .int .i64 a0_5, .int .i64 a0_6, .int .u8 a0_7]) (t := 23) ?hr ?_; (case hd => rfl); (case hg => rfl); (case hr => first | (go_simp; done) | (go_simp; rfl)); intro gb498 hg w24 hbox hb; have n0_ := Aside0.mk (below_step (by repeat (first | (with_reducible first | exact HB.out | apply below_alloc | apply pw_below_drewN | apply below_drew1) | exact HB.out)) hb); have n1_ := Aside0.mk (hbox); have n2_ := Aside0.mk ((by rw [hg]; exact (below_size (by repeat (first | (with_reducible first | exact HB.out | apply below_alloc | apply pw_below_drewN | apply below_drew1) | exact HB.out))) : w.heap.size ≤ gb498)); have n3_ := Aside0.mk ((by rw [hg]; exact (below_size (by repeat (first | (with_reducible first | exact HB.out | apply below_alloc | apply pw_below_drewN | apply below_drew1) | exact HB.out))) : w.heap.size ≤ gb498)); clear HB; have HB := n0_; have BK498 := n1_; have GW498 := n2_; have GE498 := n3_; clear n0_ n1_ n2_ n3_; clear hb hbox hg; have hcz25_0 : w24.cell? ⟨gb498, 0, none⟩ = some (.int .i64 a0_0) := (blk_cell BK498.out 0).trans rfl; have hcz25_1 : w24.cell? ⟨gb498, 1, none⟩ = some (.int .i64 a0_1) := (blk_cell BK498.out 1).trans rfl; have hcz25_2 : w24.cell? ⟨gb498, 2, none⟩ = some (.int .i64 a0_2) := (blk_cell BK498.out 2).trans rfl; have hcz25_3 : w24.cell? ⟨gb498, 3, none⟩ = some (.int .i64 a0_3) := (blk_cell BK498.out 3).trans rfl; have hcz25_4 : w24.cell? ⟨gb498, 4, none⟩ = some (.int .i64 a0_4) := (blk_cell BK498.out 4).trans rfl; have hcz25_5 : w24.cell? ⟨gb498, 5, none⟩ = some (.int .i64 a0_5) := (blk_cell BK498.out 5).trans rfl; have hcz25_6 : w24.cell? ⟨gb498, 6, none⟩ = some (.int .i64 a0_6) := (blk_cell BK498.out 6).trans rfl; have hcz25_7 : w24.cell? ⟨gb498, 7, none⟩ = some (.int .u8 a0_7) := (blk_cell BK498.out 7).trans rfl; have hfz25_0 := blk_frozen BK498.out 0; have hfz25_1 := blk_frozen BK498.out 1; have hfz25_2 := blk_frozen BK498.out 2; have hfz25_3 := blk_frozen BK498.out 3; have hfz25_4 := blk_frozen BK498.out 4; have hfz25_5 := blk_frozen BK498.out 5; have hfz25_6 := blk_frozen BK498.out 6; have hfz25_7 := blk_frozen BK498.out 7) | ((with_reducible refine gate_callee (f := 100) rfl ?_); refine goesL_ (some 5) rfl rfl Try.func100 (by kernel_rfl) rfl #[.int .i64 a0_0, .int .i64 1, .int .i64 999999] rfl (by (try simp only [List.map_toArray, List.map_cons, List.map_nil]); first | done | rfl | (simp only [List.length_drop, List.length_take]; rfl)) ?_; (with_reducible refine (letterbagref32_in.calls a0_0 1 999999 true _ A2.out).mono ?_); rintro e w' ⟨rfl, ⟨nd, rfl⟩⟩; refine ⟨_, rfl, ?_⟩) | (go_at_call 100; (with_reducible refine (letterbagref32_in.calls a0_1 1 999999 true _ A4.out).mono ?_); rintro e w' ⟨rfl, ⟨nd, rfl⟩⟩) | (go_at_call 100; (with_reducible refine (letterbagref32_in.calls a0_2 1 999999 true _ A6.out).mono ?_); rintro e w' ⟨rfl, ⟨nd, rfl⟩⟩) | (go_at_call 100; (with_reducible refine (letterbagref32_in.calls a0_3 0 1439 true _ A11.out).mono ?_); rintro e w' ⟨rfl, ⟨nd, rfl⟩⟩) | (go_at_call 100; (with_reducible refine (letterbagref32_in.calls a0_4 1 20160 true _ A13.out).mono ?_); rintro e w' ⟨rfl, ⟨nd, rfl⟩⟩) | (go_at_call 100; (with_reducible refine (letterbagref32_in.calls a0_5 0 10080 true _ A15.out).mono ?_); rintro e w' ⟨rfl, ⟨nd, rfl⟩⟩) | (go_at_call 100; (with_reducible refine (letterbagref32_in.calls a0_6 0 1000000000 false _ A17.out).mono ?_); rintro e w' ⟨rfl, ⟨nd, rfl⟩⟩))
                  go_ret
                  exact ⟨by first | rfl | (simp [errW_none, errW_some] <;> rfl) | (simp [*, errW_none, errW_some] <;> rfl), by repeat (first | (with_reducible first | exact HB.out | apply below_alloc | apply pw_below_drewN | apply below_drew1 | refine below_set ?_ GE498.out) | exact HB.out)⟩
              · replace c16 := Bool.eq_false_iff.mpr c16
                subst c16
                have H1 : (some false) = some r := by rw [if_neg (show ¬ (false = true) by decide)] at H; exact H
                clear H
                have H := H1
                clear H1
                obtain rfl := Option.some.inj H
                go_enter Try.func99, Try.ntmps99
                go_wp2_with (first | ((with_reducible refine gate_dst (N := 1) rfl ?_); refine box_event ?hg (N := 1) ?hd (cs := #[.int .i64 a0_0, .int .i64 a0_1, .int .i64 a0_2, .int .i64 a0_3, .int .i64 a0_4, .int .i64 a0_5, .int .i64 a0_6, .int .u8 a0_7]) (t := 23) ?hr ?_; (case hd => rfl); (case hg => rfl); (case hr => first | (go_simp; done) | (go_simp; rfl)); intro gb498 hg w26 hbox hb; have n0_ := Aside0.mk (below_step (by repeat (first | (with_reducible first | exact HB.out | apply below_alloc | apply pw_below_drewN | apply below_drew1) | exact HB.out)) hb); have n1_ := Aside0.mk (hbox); have n2_ := Aside0.mk ((by rw [hg]; exact (below_size (by repeat (first | (with_reducible first | exact HB.out | apply below_alloc | apply pw_below_drewN | apply below_drew1) | exact HB.out))) : w.heap.size ≤ gb498)); have n3_ := Aside0.mk ((by rw [hg]; exact (below_size (by repeat (first | (with_reducible first | exact HB.out | apply below_alloc | apply pw_below_drewN | apply below_drew1) | exact HB.out))) : w.heap.size ≤ gb498)); clear HB; have HB := n0_; have BK498 := n1_; have GW498 := n2_; have GE498 := n3_; clear n0_ n1_ n2_ n3_; clear hb hbox hg; have hcz27_0 : w26.cell? ⟨gb498, 0, none⟩ = some (.int .i64 a0_0) := (blk_cell BK498.out 0).trans rfl; have hcz27_1 : w26.cell? ⟨gb498, 1, none⟩ = some (.int .i64 a0_1) := (blk_cell BK498.out 1).trans rfl; have hcz27_2 : w26.cell? ⟨gb498, 2, none⟩ = some (.int .i64 a0_2) := (blk_cell BK498.out 2).trans rfl; have hcz27_3 : w26.cell? ⟨gb498, 3, none⟩ = some (.int .i64 a0_3) := (blk_cell BK498.out 3).trans rfl; have hcz27_4 : w26.cell? ⟨gb498, 4, none⟩ = some (.int .i64 a0_4) := (blk_cell BK498.out 4).trans rfl; have hcz27_5 : w26.cell? ⟨gb498, 5, none⟩ = some (.int .i64 a0_5) := (blk_cell BK498.out 5).trans rfl; have hcz27_6 : w26.cell? ⟨gb498, 6, none⟩ = some (.int .i64 a0_6) := (blk_cell BK498.out 6).trans rfl; have hcz27_7 : w26.cell? ⟨gb498, 7, none⟩ = some (.int .u8 a0_7) := (blk_cell BK498.out 7).trans rfl; have hfz27_0 := blk_frozen BK498.out 0; have hfz27_1 := blk_frozen BK498.out 1; have hfz27_2 := blk_frozen BK498.out 2; have hfz27_3 := blk_frozen BK498.out 3; have hfz27_4 := blk_frozen BK498.out 4; have hfz27_5 := blk_frozen BK498.out 5; have hfz27_6 := blk_frozen BK498.out 6; have hfz27_7 := blk_frozen BK498.out 7) | ((with_reducible refine gate_callee (f := 100) rfl ?_); refine goesL_ (some 5) rfl rfl Try.func100 (by kernel_rfl) rfl #[.int .i64 a0_0, .int .i64 1, .int .i64 999999] rfl (by (try simp only [List.map_toArray, List.map_cons, List.map_nil]); first | done | rfl | (simp only [List.length_drop, List.length_take]; rfl)) ?_; (with_reducible refine (letterbagref32_in.calls a0_0 1 999999 true _ A2.out).mono ?_); rintro e w' ⟨rfl, ⟨nd, rfl⟩⟩; refine ⟨_, rfl, ?_⟩) | (go_at_call 100; (with_reducible refine (letterbagref32_in.calls a0_1 1 999999 true _ A4.out).mono ?_); rintro e w' ⟨rfl, ⟨nd, rfl⟩⟩) | (go_at_call 100; (with_reducible refine (letterbagref32_in.calls a0_2 1 999999 true _ A6.out).mono ?_); rintro e w' ⟨rfl, ⟨nd, rfl⟩⟩) | (go_at_call 100; (with_reducible refine (letterbagref32_in.calls a0_3 0 1439 true _ A11.out).mono ?_); rintro e w' ⟨rfl, ⟨nd, rfl⟩⟩) | (go_at_call 100; (with_reducible refine (letterbagref32_in.calls a0_4 1 20160 true _ A13.out).mono ?_); rintro e w' ⟨rfl, ⟨nd, rfl⟩⟩) | (go_at_call 100; (with_reducible refine (letterbagref32_in.calls a0_5 0 10080 false _ A15.out).mono ?_); rintro e w' ⟨rfl, ⟨nd, rfl⟩⟩))
                go_ret
                exact ⟨by first | rfl | (simp [errW_none, errW_some] <;> rfl) | (simp [*, errW_none, errW_some] <;> rfl), by repeat (first | (with_reducible first | exact HB.out | apply below_alloc | apply pw_below_drewN | apply below_drew1 | refine below_set ?_ GE498.out) | exact HB.out)⟩
            · replace c14 := Bool.eq_false_iff.mpr c14
              subst c14
              have H1 : (some false) = some r := by rw [if_neg (show ¬ (false = true) by decide)] at H; exact H
              clear H
              have H := H1
              clear H1
              obtain rfl := Option.some.inj H
              go_enter Try.func99, Try.ntmps99
              go_wp2_with (first | ((with_reducible refine gate_dst (N := 1) rfl ?_); refine box_event ?hg (N := 1) ?hd (cs := #[.int .i64 a0_0, .int .i64 a0_1, .int .i64 a0_2, .int .i64 a0_3, .int .i64 a0_4, .int .i64 a0_5, .int .i64 a0_6, .int .u8 a0_7]) (t := 23) ?hr ?_; (case hd => rfl); (case hg => rfl); (case hr => first | (go_simp; done) | (go_simp; rfl)); intro gb498 hg w28 hbox hb; have n0_ := Aside0.mk (below_step (by repeat (first | (with_reducible first | exact HB.out | apply below_alloc | apply pw_below_drewN | apply below_drew1) | exact HB.out)) hb); have n1_ := Aside0.mk (hbox); have n2_ := Aside0.mk ((by rw [hg]; exact (below_size (by repeat (first | (with_reducible first | exact HB.out | apply below_alloc | apply pw_below_drewN | apply below_drew1) | exact HB.out))) : w.heap.size ≤ gb498)); have n3_ := Aside0.mk ((by rw [hg]; exact (below_size (by repeat (first | (with_reducible first | exact HB.out | apply below_alloc | apply pw_below_drewN | apply below_drew1) | exact HB.out))) : w.heap.size ≤ gb498)); clear HB; have HB := n0_; have BK498 := n1_; have GW498 := n2_; have GE498 := n3_; clear n0_ n1_ n2_ n3_; clear hb hbox hg; have hcz29_0 : w28.cell? ⟨gb498, 0, none⟩ = some (.int .i64 a0_0) := (blk_cell BK498.out 0).trans rfl; have hcz29_1 : w28.cell? ⟨gb498, 1, none⟩ = some (.int .i64 a0_1) := (blk_cell BK498.out 1).trans rfl; have hcz29_2 : w28.cell? ⟨gb498, 2, none⟩ = some (.int .i64 a0_2) := (blk_cell BK498.out 2).trans rfl; have hcz29_3 : w28.cell? ⟨gb498, 3, none⟩ = some (.int .i64 a0_3) := (blk_cell BK498.out 3).trans rfl; have hcz29_4 : w28.cell? ⟨gb498, 4, none⟩ = some (.int .i64 a0_4) := (blk_cell BK498.out 4).trans rfl; have hcz29_5 : w28.cell? ⟨gb498, 5, none⟩ = some (.int .i64 a0_5) := (blk_cell BK498.out 5).trans rfl; have hcz29_6 : w28.cell? ⟨gb498, 6, none⟩ = some (.int .i64 a0_6) := (blk_cell BK498.out 6).trans rfl; have hcz29_7 : w28.cell? ⟨gb498, 7, none⟩ = some (.int .u8 a0_7) := (blk_cell BK498.out 7).trans rfl; have hfz29_0 := blk_frozen BK498.out 0; have hfz29_1 := blk_frozen BK498.out 1; have hfz29_2 := blk_frozen BK498.out 2; have hfz29_3 := blk_frozen BK498.out 3; have hfz29_4 := blk_frozen BK498.out 4; have hfz29_5 := blk_frozen BK498.out 5; have hfz29_6 := blk_frozen BK498.out 6; have hfz29_7 := blk_frozen BK498.out 7) | ((with_reducible refine gate_callee (f := 100) rfl ?_); refine goesL_ (some 5) rfl rfl Try.func100 (by kernel_rfl) rfl #[.int .i64 a0_0, .int .i64 1, .int .i64 999999] rfl (by (try simp only [List.map_toArray, List.map_cons, List.map_nil]); first | done | rfl | (simp only [List.length_drop, List.length_take]; rfl)) ?_; (with_reducible refine (letterbagref32_in.calls a0_0 1 999999 true _ A2.out).mono ?_); rintro e w' ⟨rfl, ⟨nd, rfl⟩⟩; refine ⟨_, rfl, ?_⟩) | (go_at_call 100; (with_reducible refine (letterbagref32_in.calls a0_1 1 999999 true _ A4.out).mono ?_); rintro e w' ⟨rfl, ⟨nd, rfl⟩⟩) | (go_at_call 100; (with_reducible refine (letterbagref32_in.calls a0_2 1 999999 true _ A6.out).mono ?_); rintro e w' ⟨rfl, ⟨nd, rfl⟩⟩) | (go_at_call 100; (with_reducible refine (letterbagref32_in.calls a0_3 0 1439 true _ A11.out).mono ?_); rintro e w' ⟨rfl, ⟨nd, rfl⟩⟩) | (go_at_call 100; (with_reducible refine (letterbagref32_in.calls a0_4 1 20160 false _ A13.out).mono ?_); rintro e w' ⟨rfl, ⟨nd, rfl⟩⟩))
              go_ret
              exact ⟨by first | rfl | (simp [errW_none, errW_some] <;> rfl) | (simp [*, errW_none, errW_some] <;> rfl), by repeat (first | (with_reducible first | exact HB.out | apply below_alloc | apply pw_below_drewN | apply below_drew1 | refine below_set ?_ GE498.out) | exact HB.out)⟩
          · replace c12 := Bool.eq_false_iff.mpr c12
            subst c12
            have H1 : (some false) = some r := by rw [if_neg (show ¬ (false = true) by decide)] at H; exact H
            clear H
            have H := H1
            clear H1
            obtain rfl := Option.some.inj H
            go_enter Try.func99, Try.ntmps99
            go_wp2_with (first | ((with_reducible refine gate_dst (N := 1) rfl ?_); refine box_event ?hg (N := 1) ?hd (cs := #[.int .i64 a0_0, .int .i64 a0_1, .int .i64 a0_2, .int .i64 a0_3, .int .i64 a0_4, .int .i64 a0_5, .int .i64 a0_6, .int .u8 a0_7]) (t := 23) ?hr ?_; (case hd => rfl); (case hg => rfl); (case hr => first | (go_simp; done) | (go_simp; rfl)); intro gb498 hg w30 hbox hb; have n0_ := Aside0.mk (below_step (by repeat (first | (with_reducible first | exact HB.out | apply below_alloc | apply pw_below_drewN | apply below_drew1) | exact HB.out)) hb); have n1_ := Aside0.mk (hbox); have n2_ := Aside0.mk ((by rw [hg]; exact (below_size (by repeat (first | (with_reducible first | exact HB.out | apply below_alloc | apply pw_below_drewN | apply below_drew1) | exact HB.out))) : w.heap.size ≤ gb498)); have n3_ := Aside0.mk ((by rw [hg]; exact (below_size (by repeat (first | (with_reducible first | exact HB.out | apply below_alloc | apply pw_below_drewN | apply below_drew1) | exact HB.out))) : w.heap.size ≤ gb498)); clear HB; have HB := n0_; have BK498 := n1_; have GW498 := n2_; have GE498 := n3_; clear n0_ n1_ n2_ n3_; clear hb hbox hg; have hcz31_0 : w30.cell? ⟨gb498, 0, none⟩ = some (.int .i64 a0_0) := (blk_cell BK498.out 0).trans rfl; have hcz31_1 : w30.cell? ⟨gb498, 1, none⟩ = some (.int .i64 a0_1) := (blk_cell BK498.out 1).trans rfl; have hcz31_2 : w30.cell? ⟨gb498, 2, none⟩ = some (.int .i64 a0_2) := (blk_cell BK498.out 2).trans rfl; have hcz31_3 : w30.cell? ⟨gb498, 3, none⟩ = some (.int .i64 a0_3) := (blk_cell BK498.out 3).trans rfl; have hcz31_4 : w30.cell? ⟨gb498, 4, none⟩ = some (.int .i64 a0_4) := (blk_cell BK498.out 4).trans rfl; have hcz31_5 : w30.cell? ⟨gb498, 5, none⟩ = some (.int .i64 a0_5) := (blk_cell BK498.out 5).trans rfl; have hcz31_6 : w30.cell? ⟨gb498, 6, none⟩ = some (.int .i64 a0_6) := (blk_cell BK498.out 6).trans rfl; have hcz31_7 : w30.cell? ⟨gb498, 7, none⟩ = some (.int .u8 a0_7) := (blk_cell BK498.out 7).trans rfl; have hfz31_0 := blk_frozen BK498.out 0; have hfz31_1 := blk_frozen BK498.out 1; have hfz31_2 := blk_frozen BK498.out 2; have hfz31_3 := blk_frozen BK498.out 3; have hfz31_4 := blk_frozen BK498.out 4; have hfz31_5 := blk_frozen BK498.out 5; have hfz31_6 := blk_frozen BK498.out 6; have hfz31_7 := blk_frozen BK498.out 7) | ((with_reducible refine gate_callee (f := 100) rfl ?_); refine goesL_ (some 5) rfl rfl Try.func100 (by kernel_rfl) rfl #[.int .i64 a0_0, .int .i64 1, .int .i64 999999] rfl (by (try simp only [List.map_toArray, List.map_cons, List.map_nil]); first | done | rfl | (simp only [List.length_drop, List.length_take]; rfl)) ?_; (with_reducible refine (letterbagref32_in.calls a0_0 1 999999 true _ A2.out).mono ?_); rintro e w' ⟨rfl, ⟨nd, rfl⟩⟩; refine ⟨_, rfl, ?_⟩) | (go_at_call 100; (with_reducible refine (letterbagref32_in.calls a0_1 1 999999 true _ A4.out).mono ?_); rintro e w' ⟨rfl, ⟨nd, rfl⟩⟩) | (go_at_call 100; (with_reducible refine (letterbagref32_in.calls a0_2 1 999999 true _ A6.out).mono ?_); rintro e w' ⟨rfl, ⟨nd, rfl⟩⟩) | (go_at_call 100; (with_reducible refine (letterbagref32_in.calls a0_3 0 1439 false _ A11.out).mono ?_); rintro e w' ⟨rfl, ⟨nd, rfl⟩⟩))
            go_ret
            exact ⟨by first | rfl | (simp [errW_none, errW_some] <;> rfl) | (simp [*, errW_none, errW_some] <;> rfl), by repeat (first | (with_reducible first | exact HB.out | apply below_alloc | apply pw_below_drewN | apply below_drew1 | refine below_set ?_ GE498.out) | exact HB.out)⟩
      · replace c7 := Bool.eq_false_iff.mpr c7
        subst c7
        have H1 : (some false) = some r := by rw [if_neg (show ¬ (false = true) by decide)] at H; exact H
        clear H
        have H := H1
        clear H1
        obtain rfl := Option.some.inj H
        go_enter Try.func99, Try.ntmps99
        go_wp2_with (first | ((with_reducible refine gate_dst (N := 1) rfl ?_); refine box_event ?hg (N := 1) ?hd (cs := #[.int .i64 a0_0, .int .i64 a0_1, .int .i64 a0_2, .int .i64 a0_3, .int .i64 a0_4, .int .i64 a0_5, .int .i64 a0_6, .int .u8 a0_7]) (t := 23) ?hr ?_; (case hd => rfl); (case hg => rfl); (case hr => first | (go_simp; done) | (go_simp; rfl)); intro gb498 hg w32 hbox hb; have n0_ := Aside0.mk (below_step (by repeat (first | (with_reducible first | exact HB.out | apply below_alloc | apply pw_below_drewN | apply below_drew1) | exact HB.out)) hb); have n1_ := Aside0.mk (hbox); have n2_ := Aside0.mk ((by rw [hg]; exact (below_size (by repeat (first | (with_reducible first | exact HB.out | apply below_alloc | apply pw_below_drewN | apply below_drew1) | exact HB.out))) : w.heap.size ≤ gb498)); have n3_ := Aside0.mk ((by rw [hg]; exact (below_size (by repeat (first | (with_reducible first | exact HB.out | apply below_alloc | apply pw_below_drewN | apply below_drew1) | exact HB.out))) : w.heap.size ≤ gb498)); clear HB; have HB := n0_; have BK498 := n1_; have GW498 := n2_; have GE498 := n3_; clear n0_ n1_ n2_ n3_; clear hb hbox hg; have hcz33_0 : w32.cell? ⟨gb498, 0, none⟩ = some (.int .i64 a0_0) := (blk_cell BK498.out 0).trans rfl; have hcz33_1 : w32.cell? ⟨gb498, 1, none⟩ = some (.int .i64 a0_1) := (blk_cell BK498.out 1).trans rfl; have hcz33_2 : w32.cell? ⟨gb498, 2, none⟩ = some (.int .i64 a0_2) := (blk_cell BK498.out 2).trans rfl; have hcz33_3 : w32.cell? ⟨gb498, 3, none⟩ = some (.int .i64 a0_3) := (blk_cell BK498.out 3).trans rfl; have hcz33_4 : w32.cell? ⟨gb498, 4, none⟩ = some (.int .i64 a0_4) := (blk_cell BK498.out 4).trans rfl; have hcz33_5 : w32.cell? ⟨gb498, 5, none⟩ = some (.int .i64 a0_5) := (blk_cell BK498.out 5).trans rfl; have hcz33_6 : w32.cell? ⟨gb498, 6, none⟩ = some (.int .i64 a0_6) := (blk_cell BK498.out 6).trans rfl; have hcz33_7 : w32.cell? ⟨gb498, 7, none⟩ = some (.int .u8 a0_7) := (blk_cell BK498.out 7).trans rfl; have hfz33_0 := blk_frozen BK498.out 0; have hfz33_1 := blk_frozen BK498.out 1; have hfz33_2 := blk_frozen BK498.out 2; have hfz33_3 := blk_frozen BK498.out 3; have hfz33_4 := blk_frozen BK498.out 4; have hfz33_5 := blk_frozen BK498.out 5; have hfz33_6 := blk_frozen BK498.out 6; have hfz33_7 := blk_frozen BK498.out 7) | ((with_reducible refine gate_callee (f := 100) rfl ?_); refine goesL_ (some 5) rfl rfl Try.func100 (by kernel_rfl) rfl #[.int .i64 a0_0, .int .i64 1, .int .i64 999999] rfl (by (try simp only [List.map_toArray, List.map_cons, List.map_nil]); first | done | rfl | (simp only [List.length_drop, List.length_take]; rfl)) ?_; (with_reducible refine (letterbagref32_in.calls a0_0 1 999999 true _ A2.out).mono ?_); rintro e w' ⟨rfl, ⟨nd, rfl⟩⟩; refine ⟨_, rfl, ?_⟩) | (go_at_call 100; (with_reducible refine (letterbagref32_in.calls a0_1 1 999999 true _ A4.out).mono ?_); rintro e w' ⟨rfl, ⟨nd, rfl⟩⟩) | (go_at_call 100; (with_reducible refine (letterbagref32_in.calls a0_2 1 999999 false _ A6.out).mono ?_); rintro e w' ⟨rfl, ⟨nd, rfl⟩⟩))
        go_ret
        exact ⟨by first | rfl | (simp [errW_none, errW_some] <;> rfl) | (simp [*, errW_none, errW_some] <;> rfl), by repeat (first | (with_reducible first | exact HB.out | apply below_alloc | apply pw_below_drewN | apply below_drew1 | refine below_set ?_ GE498.out) | exact HB.out)⟩
    · replace c5 := Bool.eq_false_iff.mpr c5
      subst c5
      have H1 : (some false) = some r := by rw [if_neg (show ¬ (false = true) by decide)] at H; exact H
      clear H
      have H := H1
      clear H1
      obtain rfl := Option.some.inj H
      go_enter Try.func99, Try.ntmps99
      go_wp2_with (first | ((with_reducible refine gate_dst (N := 1) rfl ?_); refine box_event ?hg (N := 1) ?hd (cs := #[.int .i64 a0_0, .int .i64 a0_1, .int .i64 a0_2, .int .i64 a0_3, .int .i64 a0_4, .int .i64 a0_5, .int .i64 a0_6, .int .u8 a0_7]) (t := 23) ?hr ?_; (case hd => rfl); (case hg => rfl); (case hr => first | (go_simp; done) | (go_simp; rfl)); intro gb498 hg w34 hbox hb; have n0_ := Aside0.mk (below_step (by repeat (first | (with_reducible first | exact HB.out | apply below_alloc | apply pw_below_drewN | apply below_drew1) | exact HB.out)) hb); have n1_ := Aside0.mk (hbox); have n2_ := Aside0.mk ((by rw [hg]; exact (below_size (by repeat (first | (with_reducible first | exact HB.out | apply below_alloc | apply pw_below_drewN | apply below_drew1) | exact HB.out))) : w.heap.size ≤ gb498)); have n3_ := Aside0.mk ((by rw [hg]; exact (below_size (by repeat (first | (with_reducible first | exact HB.out | apply below_alloc | apply pw_below_drewN | apply below_drew1) | exact HB.out))) : w.heap.size ≤ gb498)); clear HB; have HB := n0_; have BK498 := n1_; have GW498 := n2_; have GE498 := n3_; clear n0_ n1_ n2_ n3_; clear hb hbox hg; have hcz35_0 : w34.cell? ⟨gb498, 0, none⟩ = some (.int .i64 a0_0) := (blk_cell BK498.out 0).trans rfl; have hcz35_1 : w34.cell? ⟨gb498, 1, none⟩ = some (.int .i64 a0_1) := (blk_cell BK498.out 1).trans rfl; have hcz35_2 : w34.cell? ⟨gb498, 2, none⟩ = some (.int .i64 a0_2) := (blk_cell BK498.out 2).trans rfl; have hcz35_3 : w34.cell? ⟨gb498, 3, none⟩ = some (.int .i64 a0_3) := (blk_cell BK498.out 3).trans rfl; have hcz35_4 : w34.cell? ⟨gb498, 4, none⟩ = some (.int .i64 a0_4) := (blk_cell BK498.out 4).trans rfl; have hcz35_5 : w34.cell? ⟨gb498, 5, none⟩ = some (.int .i64 a0_5) := (blk_cell BK498.out 5).trans rfl; have hcz35_6 : w34.cell? ⟨gb498, 6, none⟩ = some (.int .i64 a0_6) := (blk_cell BK498.out 6).trans rfl; have hcz35_7 : w34.cell? ⟨gb498, 7, none⟩ = some (.int .u8 a0_7) := (blk_cell BK498.out 7).trans rfl; have hfz35_0 := blk_frozen BK498.out 0; have hfz35_1 := blk_frozen BK498.out 1; have hfz35_2 := blk_frozen BK498.out 2; have hfz35_3 := blk_frozen BK498.out 3; have hfz35_4 := blk_frozen BK498.out 4; have hfz35_5 := blk_frozen BK498.out 5; have hfz35_6 := blk_frozen BK498.out 6; have hfz35_7 := blk_frozen BK498.out 7) | ((with_reducible refine gate_callee (f := 100) rfl ?_); refine goesL_ (some 5) rfl rfl Try.func100 (by kernel_rfl) rfl #[.int .i64 a0_0, .int .i64 1, .int .i64 999999] rfl (by (try simp only [List.map_toArray, List.map_cons, List.map_nil]); first | done | rfl | (simp only [List.length_drop, List.length_take]; rfl)) ?_; (with_reducible refine (letterbagref32_in.calls a0_0 1 999999 true _ A2.out).mono ?_); rintro e w' ⟨rfl, ⟨nd, rfl⟩⟩; refine ⟨_, rfl, ?_⟩) | (go_at_call 100; (with_reducible refine (letterbagref32_in.calls a0_1 1 999999 false _ A4.out).mono ?_); rintro e w' ⟨rfl, ⟨nd, rfl⟩⟩))
      go_ret
      exact ⟨by first | rfl | (simp [errW_none, errW_some] <;> rfl) | (simp [*, errW_none, errW_some] <;> rfl), by repeat (first | (with_reducible first | exact HB.out | apply below_alloc | apply pw_below_drewN | apply below_drew1 | refine below_set ?_ GE498.out) | exact HB.out)⟩
  · replace c3 := Bool.eq_false_iff.mpr c3
    subst c3
    have H1 : (some false) = some r := by rw [if_neg (show ¬ (false = true) by decide)] at H; exact H
    clear H
    have H := H1
    clear H1
    obtain rfl := Option.some.inj H
    go_enter Try.func99, Try.ntmps99
    go_wp2_with (first | ((with_reducible refine gate_dst (N := 1) rfl ?_); refine box_event ?hg (N := 1) ?hd (cs := #[.int .i64 a0_0, .int .i64 a0_1, .int .i64 a0_2, .int .i64 a0_3, .int .i64 a0_4, .int .i64 a0_5, .int .i64 a0_6, .int .u8 a0_7]) (t := 23) ?hr ?_; (case hd => rfl); (case hg => rfl); (case hr => first | (go_simp; done) | (go_simp; rfl)); intro gb498 hg w36 hbox hb; have n0_ := Aside0.mk (below_step (by repeat (first | (with_reducible first | exact HB.out | apply below_alloc | apply pw_below_drewN | apply below_drew1) | exact HB.out)) hb); have n1_ := Aside0.mk (hbox); have n2_ := Aside0.mk ((by rw [hg]; exact (below_size (by repeat (first | (with_reducible first | exact HB.out | apply below_alloc | apply pw_below_drewN | apply below_drew1) | exact HB.out))) : w.heap.size ≤ gb498)); have n3_ := Aside0.mk ((by rw [hg]; exact (below_size (by repeat (first | (with_reducible first | exact HB.out | apply below_alloc | apply pw_below_drewN | apply below_drew1) | exact HB.out))) : w.heap.size ≤ gb498)); clear HB; have HB := n0_; have BK498 := n1_; have GW498 := n2_; have GE498 := n3_; clear n0_ n1_ n2_ n3_; clear hb hbox hg; have hcz37_0 : w36.cell? ⟨gb498, 0, none⟩ = some (.int .i64 a0_0) := (blk_cell BK498.out 0).trans rfl; have hcz37_1 : w36.cell? ⟨gb498, 1, none⟩ = some (.int .i64 a0_1) := (blk_cell BK498.out 1).trans rfl; have hcz37_2 : w36.cell? ⟨gb498, 2, none⟩ = some (.int .i64 a0_2) := (blk_cell BK498.out 2).trans rfl; have hcz37_3 : w36.cell? ⟨gb498, 3, none⟩ = some (.int .i64 a0_3) := (blk_cell BK498.out 3).trans rfl; have hcz37_4 : w36.cell? ⟨gb498, 4, none⟩ = some (.int .i64 a0_4) := (blk_cell BK498.out 4).trans rfl; have hcz37_5 : w36.cell? ⟨gb498, 5, none⟩ = some (.int .i64 a0_5) := (blk_cell BK498.out 5).trans rfl; have hcz37_6 : w36.cell? ⟨gb498, 6, none⟩ = some (.int .i64 a0_6) := (blk_cell BK498.out 6).trans rfl; have hcz37_7 : w36.cell? ⟨gb498, 7, none⟩ = some (.int .u8 a0_7) := (blk_cell BK498.out 7).trans rfl; have hfz37_0 := blk_frozen BK498.out 0; have hfz37_1 := blk_frozen BK498.out 1; have hfz37_2 := blk_frozen BK498.out 2; have hfz37_3 := blk_frozen BK498.out 3; have hfz37_4 := blk_frozen BK498.out 4; have hfz37_5 := blk_frozen BK498.out 5; have hfz37_6 := blk_frozen BK498.out 6; have hfz37_7 := blk_frozen BK498.out 7) | ((with_reducible refine gate_callee (f := 100) rfl ?_); refine goesL_ (some 5) rfl rfl Try.func100 (by kernel_rfl) rfl #[.int .i64 a0_0, .int .i64 1, .int .i64 999999] rfl (by (try simp only [List.map_toArray, List.map_cons, List.map_nil]); first | done | rfl | (simp only [List.length_drop, List.length_take]; rfl)) ?_; (with_reducible refine (letterbagref32_in.calls a0_0 1 999999 false _ A2.out).mono ?_); rintro e w' ⟨rfl, ⟨nd, rfl⟩⟩; refine ⟨_, rfl, ?_⟩))
    go_ret
    exact ⟨by first | rfl | (simp [errW_none, errW_some] <;> rfl) | (simp [*, errW_none, errW_some] <;> rfl), by repeat (first | (with_reducible first | exact HB.out | apply below_alloc | apply pw_below_drewN | apply below_drew1 | refine below_set ?_ GE498.out) | exact HB.out)⟩

/-! ### letterbagref32_has: function 107 -/
def letterbagref32_has.l0 : Nat → List Int → Int → Int → Int → Option (Int)
  | 0, _, _, _, _ => none
  | k + 1, x0, x1, x5, x6 => if x6 < (x0.length : Int) then (if 0 ≤ x6 then (if (rd x0 x6) = x1 then (letterbagref32_has.l0 k x0 x1 (wrap64 (x5 + 1)) (wrap64 (x6 + 1))) else (letterbagref32_has.l0 k x0 x1 x5 (wrap64 (x6 + 1)))) else (none)) else (some x5)
def letterbagref32_has.f (k : Nat) (l0 : List Int) (a1 : Int) : Option (Int) := letterbagref32_has.l0 k l0 a1 0 0
set_option maxHeartbeats 8000000 in
set_option maxRecDepth 100000 in
theorem letterbagref32_has.calls (k : Nat) (A0 : Option Addr) (c0 : Nat) (l0 : List Int) (a1 : Int) (r : Int) (w : World) (hr0 : Kd.C (Kd.int .i64) w A0 l0.length l0) (hc0 : l0.length ≤ c0) (h : letterbagref32_has.f k l0 a1 = some r) :
    Calls Try.prog 107 #[.slice A0 l0.length c0, .int .i64 a1] w fun e w' => e = .returned (.int .i64 r) ∧ Drawn0 w w' := by
  have HR0 := Aside0.mk hr0
  have HC0 := Aside0.mk hc0
  clear hr0 hc0
  have H : (letterbagref32_has.l0 k l0 a1 0 0) = some r := h
  clear h
  have H' := Aside0.mk H
  clear H
  go_enter Try.func107, Try.ntmps107
  go_wp2
  go_loopg [5, 6] k (fun kq v5 v6 w' => ∃ (x5_1 : Int) (x6_1 : Int), v5 = .int .i64 x5_1 ∧ v6 = .int .i64 x6_1 ∧ Aside0 (letterbagref32_has.l0 kq l0 a1 x5_1 x6_1 = some r) ∧ Aside0 (kq ≤ k) ∧ Drawn0 w w')
  case atStart => exact ⟨(0), (0), (by first | rfl | (simp; done) | (simp [*]; done)), (by first | rfl | (simp; done) | (simp [*]; done)), H', ⟨Nat.le_refl _⟩, by repeat (first | exact Drawn0.refl _ | apply Drawn0.step)⟩
  case round =>
    clear H'
    try clear c1
    try clear p2
    obtain ⟨x5_1, x6_1, rfl, rfl, HA, HK1, ⟨m1, rfl⟩⟩ := hrel
    cases gk with
    | zero => exact absurd HA.out (by simp [letterbagref32_has.l0])
    | succ k1 =>
      have H := HA.out
      clear HA
      simp only [letterbagref32_has.l0] at H
      by_cases c3 : x6_1 < (l0.length : Int)
      · rw [if_pos c3] at H
        have c3b0 : decide (x6_1 < (l0.length : Int)) = true := decide_eq_true c3
        clear c3
        by_cases c4 : 0 ≤ x6_1
        · rw [if_pos c4] at H
          have c4b0 : decide (0 ≤ x6_1) = true := decide_eq_true c4
          clear c4
          by_cases c5 : (rd l0 x6_1) = a1
          · rw [if_pos c5] at H
            have c5b0 : ((rd l0 x6_1) == a1) = true := beq_iff_eq.mpr c5
            have c5b1 : ((rd l0 x6_1) != a1) = false := bne_eq_false_iff_eq.mpr c5
            clear c5
            have H' := Aside0.mk H
            clear H
            have p506 : 0 ≤ (x6_1 : Int) := of_decide_eq_true (by first | (with_reducible assumption) | assumption)
            have q506 : x6_1 < (l0.length : Int) := of_decide_eq_true (by first | (with_reducible assumption) | assumption)
            obtain ⟨ad506, e506, hx506_0⟩ := Kd.at_int HR0.out x6_1 p506 q506
            cases e506
            replace p506 := eq_true p506
            replace q506 := eq_true q506
            go_wp2
            go_roundg k1
            case measure => have := HK1.out; omega
            case rel => exact ⟨(wrap64 (x5_1 + 1)), (wrap64 (x6_1 + 1)), (by first | rfl | (simp; done) | (simp [*]; done)), (by first | rfl | (simp; done) | (simp [*]; done)), H', ⟨by have := HK1.out; omega⟩, by repeat (first | exact Drawn0.refl _ | apply Drawn0.step)⟩
          · rw [if_neg c5] at H
            have c5b0 : ((rd l0 x6_1) == a1) = false := beq_eq_false_iff_ne.mpr c5
            have c5b1 : ((rd l0 x6_1) != a1) = true := bne_iff_ne.mpr c5
            have H' := Aside0.mk H
            clear H
            have p506 : 0 ≤ (x6_1 : Int) := of_decide_eq_true (by first | (with_reducible assumption) | assumption)
            have q506 : x6_1 < (l0.length : Int) := of_decide_eq_true (by first | (with_reducible assumption) | assumption)
            obtain ⟨ad506, e506, hx506_0⟩ := Kd.at_int HR0.out x6_1 p506 q506
            cases e506
            replace p506 := eq_true p506
            replace q506 := eq_true q506
            go_wp2
            go_roundg k1
            case measure => have := HK1.out; omega
            case rel => exact ⟨(x5_1), (wrap64 (x6_1 + 1)), (by first | rfl | (simp; done) | (simp [*]; done)), (by first | rfl | (simp; done) | (simp [*]; done)), H', ⟨by have := HK1.out; omega⟩, by repeat (first | exact Drawn0.refl _ | apply Drawn0.step)⟩
        · rw [if_neg c4] at H
          exact absurd H (by simp)
      · rw [if_neg c3] at H
        have c3b0 : decide (x6_1 < (l0.length : Int)) = false := decide_eq_false c3
        clear c3
        obtain rfl := Option.some.inj H
        go_wp2
        go_ret
        exact ⟨by first | rfl | (simp; done) | (simp [*]; done), by repeat (first | exact Drawn0.refl _ | apply Drawn0.step)⟩

end Go.Proofs.Ytdpadeklociinaa.PA
namespace Go.Proofs.Ytdpadeklociinaa.PA
open Go.RowKit Go.Proofs.YtdpadeklociinaaW.PrintWords Go.Proofs.YtdpadeklociinaaW.PrintLast Go.Proofs.YtdpadeklociinaaW.PrintMore
attribute [local go_sem] max2_int min2_int max_two min_two max_three min_three max_four min_four   -- for this text's walks alone
set_option linter.unusedVariables false
set_option linter.unusedSimpArgs false

/-! ### letterbagref32_Valid: function 80 -/
mutual
def letterbagref32_Valid.j0 : Nat → Bool → List Int → List (S23) → Option (Int)
  | 0, _, _, _ => none
  | k + 1, x16, x508000, x508001 => if x16 = true then (some 5) else (letterbagref32_Valid.l0 k 0 x508000 x508001)
def letterbagref32_Valid.l0 : Nat → Int → List Int → List (S23) → Option (Int)
  | 0, _, _, _ => none
  | k + 1, x3, x508000, x508001 => if x3 < (x508000.length : Int) then (if 0 ≤ x3 then ((letterbagref32_in.f (rd x508000 x3) 1 999999).bind fun t509 => (if t509 = true then ((letterbagref32_has.f k x508000 (rd x508000 x3)).bind fun t511 => (if t511 > 1 then (some 320) else (letterbagref32_Valid.l0 k (wrap64 (x3 + 1)) x508000 x508001))) else (some 320))) else (none)) else (letterbagref32_Valid.l1 k 0 x508000 x508001)
def letterbagref32_Valid.l1 : Nat → Int → List Int → List (S23) → Option (Int)
  | 0, _, _, _ => none
  | k + 1, x4, x508000, x508001 => if x4 < (x508001.length : Int) then (if 0 ≤ x4 then ((letterbagref32_Right.f ((rd_T23 x508001 x4).f0) ((rd_T23 x508001 x4).f1) ((rd_T23 x508001 x4).f2) ((rd_T23 x508001 x4).f3) ((rd_T23 x508001 x4).f4) ((rd_T23 x508001 x4).f5) ((rd_T23 x508001 x4).f6) ((rd_T23 x508001 x4).f7)).bind fun t514 => (if t514 = true then ((letterbagref32_has.f k x508000 ((rd_T23 x508001 x4).f1)).bind fun t515 => (if t515 = 0 then (letterbagref32_Valid.j3 k x4 true x508000 x508001 ((rd_T23 x508001 x4).f0) ((rd_T23 x508001 x4).f1) ((rd_T23 x508001 x4).f2) ((rd_T23 x508001 x4).f3) ((rd_T23 x508001 x4).f4) ((rd_T23 x508001 x4).f5) ((rd_T23 x508001 x4).f6) ((rd_T23 x508001 x4).f7)) else ((letterbagref32_has.f k x508000 ((rd_T23 x508001 x4).f2)).bind fun t516 => (letterbagref32_Valid.j3 k x4 (t516 == 0) x508000 x508001 ((rd_T23 x508001 x4).f0) ((rd_T23 x508001 x4).f1) ((rd_T23 x508001 x4).f2) ((rd_T23 x508001 x4).f3) ((rd_T23 x508001 x4).f4) ((rd_T23 x508001 x4).f5) ((rd_T23 x508001 x4).f6) ((rd_T23 x508001 x4).f7))))) else (letterbagref32_Valid.j3 k x4 true x508000 x508001 ((rd_T23 x508001 x4).f0) ((rd_T23 x508001 x4).f1) ((rd_T23 x508001 x4).f2) ((rd_T23 x508001 x4).f3) ((rd_T23 x508001 x4).f4) ((rd_T23 x508001 x4).f5) ((rd_T23 x508001 x4).f6) ((rd_T23 x508001 x4).f7)))) else (none)) else (some 0)
def letterbagref32_Valid.j3 : Nat → Int → Bool → List Int → List (S23) → Int → Int → Int → Int → Int → Int → Int → Int → Option (Int)
  | 0, _, _, _, _, _, _, _, _, _, _, _, _ => none
  | k + 1, x4, x72, x508000, x508001, x514000, x514001, x514002, x514003, x514004, x514005, x514006, x514007 => if x72 = true then (some 321) else (letterbagref32_Valid.l2 k x4 0 x508000 x508001 x514000 x514001 x514002 x514003 x514004 x514005 x514006 x514007)
def letterbagref32_Valid.l2 : Nat → Int → Int → List Int → List (S23) → Int → Int → Int → Int → Int → Int → Int → Int → Option (Int)
  | 0, _, _, _, _, _, _, _, _, _, _, _, _ => none
  | k + 1, x4, x6, x508000, x508001, x514000, x514001, x514002, x514003, x514004, x514005, x514006, x514007 => if x6 < x4 then (if 0 ≤ x6 then (if x6 < (x508001.length : Int) then (if ((rd_T23 x508001 x6).f0) = x514000 then (some 321) else (letterbagref32_Valid.l2 k x4 (wrap64 (x6 + 1)) x508000 x508001 x514000 x514001 x514002 x514003 x514004 x514005 x514006 x514007)) else (none)) else (none)) else (letterbagref32_Valid.l1 k (wrap64 (x4 + 1)) x508000 x508001)
end
def letterbagref32_Valid.f (k : Nat) (l0_0 : List Int) (l0_1 : List (S23)) : Option (Int) := if (l0_0.length : Int) > 50 then (letterbagref32_Valid.j0 k true l0_0 l0_1) else (letterbagref32_Valid.j0 k (decide ((l0_1.length : Int) > 200)) l0_0 l0_1)
set_option maxHeartbeats 8000000 in
set_option maxRecDepth 100000 in
theorem letterbagref32_Valid.calls (k : Nat) (A0_0 : Option Addr) (c0_0 : Nat) (l0_0 : List Int) (A0_1 : Option Addr) (c0_1 : Nat) (l0_1 : List (S23)) (r : Int) (w : World) (hr0_0 : Kd.C (Kd.int .i64) w A0_0 l0_0.length l0_0) (hc0_0 : l0_0.length ≤ c0_0) (hr0_1 : Kd.C k23 w A0_1 l0_1.length l0_1) (hc0_1 : l0_1.length ≤ c0_1) (h : letterbagref32_Valid.f k l0_0 l0_1 = some r) :
    Calls Try.prog 80 #[.agg #[.slice A0_0 l0_0.length c0_0, .slice A0_1 l0_1.length c0_1]] w fun e w' => e = .returned (.int .i64 r) ∧ Below w.heap.size w w' := by
  have hu29 := Try.underlying29
  have hu23 := Try.underlying23
  have HR0_0 := Aside0.mk hr0_0
  have HC0_0 := Aside0.mk hc0_0
  clear hr0_0 hc0_0
  have HR0_1 := Aside0.mk hr0_1
  have HC0_1 := Aside0.mk hc0_1
  clear hr0_1 hc0_1
  have HB := Aside0.mk (Below.refl w.heap.size w)
  have H : (if (l0_0.length : Int) > 50 then (letterbagref32_Valid.j0 k true l0_0 l0_1) else (letterbagref32_Valid.j0 k (decide ((l0_1.length : Int) > 200)) l0_0 l0_1)) = some r := h
  clear h
  have HC2 := Aside0.mk H
  clear H
  go_enter Try.func80, Try.ntmps80
  go_upto_region 1 with (first | ((with_reducible refine gate_dst (N := 1) rfl ?_); (try (refine gate_guard (by rfl) ?_; dsimp only)); refine box_event ?hg (N := 1) ?hd (cs := #[.slice A0_0 l0_0.length c0_0, .slice A0_1 l0_1.length c0_1]) (t := 29) ?hr ?_; (case hd => rfl); (case hg => rfl); (case hr => first | (go_simp; done) | (go_simp; rfl)); intro gb507 hg w3 hbox hb; have n0_ := Aside0.mk (below_step (by repeat (first | (with_reducible first | exact HB.out | apply below_alloc | apply pw_below_drewN | apply below_drew1) | exact HB.out)) hb); have n1_ := Aside0.mk (hbox); have n2_ := Aside0.mk ((by rw [hg]; exact (below_size (by repeat (first | (with_reducible first | exact HB.out | apply below_alloc | apply pw_below_drewN | apply below_drew1) | exact HB.out))) : w.heap.size ≤ gb507)); have n3_ := Aside0.mk ((by rw [hg]; exact (below_size (by repeat (first | (with_reducible first | exact HB.out | apply below_alloc | apply pw_below_drewN | apply below_drew1) | exact HB.out))) : w.heap.size ≤ gb507)); clear HB; have HB := n0_; have BK507 := n1_; have GW507 := n2_; have GE507 := n3_; clear n0_ n1_ n2_ n3_; clear hb hbox hg))
  repeat (go_quiet (first | ((with_reducible refine gate_dst (N := 1) rfl ?_); (try (refine gate_guard (by rfl) ?_; dsimp only)); refine box_event ?hg (N := 1) ?hd (cs := #[.slice A0_0 l0_0.length c0_0, .slice A0_1 l0_1.length c0_1]) (t := 29) ?hr ?_; (case hd => rfl); (case hg => rfl); (case hr => first | (go_simp; done) | (go_simp; rfl)); intro gb507 hg w3 hbox hb; have n0_ := Aside0.mk (below_step (by repeat (first | (with_reducible first | exact HB.out | apply below_alloc | apply pw_below_drewN | apply below_drew1) | exact HB.out)) hb); have n1_ := Aside0.mk (hbox); have n2_ := Aside0.mk ((by rw [hg]; exact (below_size (by repeat (first | (with_reducible first | exact HB.out | apply below_alloc | apply pw_below_drewN | apply below_drew1) | exact HB.out))) : w.heap.size ≤ gb507)); have n3_ := Aside0.mk ((by rw [hg]; exact (below_size (by repeat (first | (with_reducible first | exact HB.out | apply below_alloc | apply pw_below_drewN | apply below_drew1) | exact HB.out))) : w.heap.size ≤ gb507)); clear HB; have HB := n0_; have BK507 := n1_; have GW507 := n2_; have GE507 := n3_; clear n0_ n1_ n2_ n3_; clear hb hbox hg)); go_upto_region 1 with (first | ((with_reducible refine gate_dst (N := 1) rfl ?_); (try (refine gate_guard (by rfl) ?_; dsimp only)); refine box_event ?hg (N := 1) ?hd (cs := #[.slice A0_0 l0_0.length c0_0, .slice A0_1 l0_1.length c0_1]) (t := 29) ?hr ?_; (case hd => rfl); (case hg => rfl); (case hr => first | (go_simp; done) | (go_simp; rfl)); intro gb507 hg w3 hbox hb; have n0_ := Aside0.mk (below_step (by repeat (first | (with_reducible first | exact HB.out | apply below_alloc | apply pw_below_drewN | apply below_drew1) | exact HB.out)) hb); have n1_ := Aside0.mk (hbox); have n2_ := Aside0.mk ((by rw [hg]; exact (below_size (by repeat (first | (with_reducible first | exact HB.out | apply below_alloc | apply pw_below_drewN | apply below_drew1) | exact HB.out))) : w.heap.size ≤ gb507)); have n3_ := Aside0.mk ((by rw [hg]; exact (below_size (by repeat (first | (with_reducible first | exact HB.out | apply below_alloc | apply pw_below_drewN | apply below_drew1) | exact HB.out))) : w.heap.size ≤ gb507)); clear HB; have HB := n0_; have BK507 := n1_; have GW507 := n2_; have GE507 := n3_; clear n0_ n1_ n2_ n3_; clear hb hbox hg)))
  (try simp only [Act.put, List.setIfInBounds_toArray, List.set_cons_zero, List.set_cons_succ])
  go_cut [16] (fun v16 wc => ∃ (kq : Nat) (x16_1 : Bool), v16 = .bool x16_1 ∧ Aside0 (letterbagref32_Valid.j0 kq x16_1 l0_0 l0_1 = some r) ∧ Aside0 (kq ≤ k) ∧ Aside0 (wc.heap[gb507]? = some (.cells #[(.slice A0_0 l0_0.length c0_0), (.slice A0_1 l0_1.length c0_1)] 29 (0, 0))) ∧ Aside0 (Below w.heap.size w wc))
  case first =>
    have H := HC2.out
    clear HC2
    by_cases c4 : (l0_0.length : Int) > 50
    · rw [if_pos c4] at H
      have c4b0 : decide (50 < (l0_0.length : Int)) = true := decide_eq_true c4
      have c4b1 : decide (50 < l0_0.length) = true := decide_eq_true (by omega)
      clear c4
      (first | rw [c4b0] | (simp only [i64_w, i32_w]; rw [c4b0]) | skip)
      have H' := Aside0.mk H
      clear H
      have hcz5_0 : w3.cell? ⟨gb507, 0, none⟩ = some (.slice A0_0 l0_0.length c0_0) := (blk_cell BK507.out 0).trans rfl
      have hcz5_1 : w3.cell? ⟨gb507, 1, none⟩ = some (.slice A0_1 l0_1.length c0_1) := (blk_cell BK507.out 1).trans rfl
      have hfz5_0 := blk_frozen BK507.out 0
      have hfz5_1 := blk_frozen BK507.out 1
      go_wp2
      repeat (go_quiet (fail); try go_wp2)
      go_meet
      case rel => exact ⟨_, (true), (by first | rfl | (simp; done) | (simp [*]; done)), H', ⟨by first | omega | exact Nat.le_refl _⟩, ⟨by (with_reducible repeat (first | refine blk_drewN ?_ _ | refine blk_drew ?_ | refine blk_alloc ?_ _)); exact BK507.out⟩, ⟨by repeat (first | (with_reducible first | exact HB.out | apply below_alloc | apply pw_below_drewN | apply below_drew1 | refine below_set ?_ GE507.out) | exact HB.out)⟩⟩
    · rw [if_neg c4] at H
      have c4b0 : decide (50 < (l0_0.length : Int)) = false := decide_eq_false c4
      have c4b1 : decide (50 < l0_0.length) = false := decide_eq_false (by omega)
      clear c4
      (first | rw [c4b0] | (simp only [i64_w, i32_w]; rw [c4b0]) | skip)
      have H' := Aside0.mk H
      clear H
      have hcz6_0 : w3.cell? ⟨gb507, 0, none⟩ = some (.slice A0_0 l0_0.length c0_0) := (blk_cell BK507.out 0).trans rfl
      have hcz6_1 : w3.cell? ⟨gb507, 1, none⟩ = some (.slice A0_1 l0_1.length c0_1) := (blk_cell BK507.out 1).trans rfl
      have hfz6_0 := blk_frozen BK507.out 0
      have hfz6_1 := blk_frozen BK507.out 1
      go_wp2
      repeat (go_quiet (fail); try go_wp2)
      go_meet
      case rel => exact ⟨_, (decide ((l0_1.length : Int) > 200)), (by first | rfl | (simp; done) | (simp [*]; done)), H', ⟨by first | omega | exact Nat.le_refl _⟩, ⟨by (with_reducible repeat (first | refine blk_drewN ?_ _ | refine blk_drew ?_ | refine blk_alloc ?_ _)); exact BK507.out⟩, ⟨by repeat (first | (with_reducible first | exact HB.out | apply below_alloc | apply pw_below_drewN | apply below_drew1 | refine below_set ?_ GE507.out) | exact HB.out)⟩⟩
  case rest =>
    clear HC2
    try clear p2
    try clear c4
    try clear c4b0
    try clear c4b1
    try clear hcz5_0
    try clear hcz5_1
    try clear hcz6_0
    try clear hcz6_1
    try clear hfz5_0
    try clear hfz5_1
    try clear hfz6_0
    try clear hfz6_1
    obtain ⟨kq, x16_1, rfl, HA, HJ1, BK507, HB⟩ := hcut
    cases kq with
    | zero => exact absurd HA.out (by simp [letterbagref32_Valid.j0])
    | succ kj1 =>
      have H := HA.out
      clear HA
      simp only [letterbagref32_Valid.j0] at H
      by_cases c7 : x16_1 = true
      · subst c7
        have H1 : (some 5) = some r := by rw [if_pos rfl] at H; exact H
        clear H
        have H := H1
        clear H1
        obtain rfl := Option.some.inj H
        go_wp2
        repeat (go_quiet (fail); try go_wp2)
        go_ret
        exact ⟨by first | rfl | (simp [errW_none, errW_some] <;> rfl) | (simp [*, errW_none, errW_some] <;> rfl), by repeat (first | (with_reducible first | exact HB.out | apply below_alloc | apply pw_below_drewN | apply below_drew1 | refine below_set ?_ GE507.out) | exact HB.out)⟩
      · replace c7 := Bool.eq_false_iff.mpr c7
        subst c7
        have H1 : (letterbagref32_Valid.l0 kj1 0 l0_0 l0_1) = some r := by rw [if_neg (show ¬ (false = true) by decide)] at H; exact H
        clear H
        have H := H1
        clear H1
        have H' := Aside0.mk H
        clear H
        go_wp2
        repeat (go_quiet (fail); try go_wp2)
        go_loopg [3] kj1 (fun kq v3 w' => ∃ (x3_2 : Int), v3 = .int .i64 x3_2 ∧ Aside0 (letterbagref32_Valid.l0 kq x3_2 l0_0 l0_1 = some r) ∧ Aside0 (kq ≤ kj1) ∧ Aside0 (w'.heap[gb507]? = some (.cells #[(.slice A0_0 l0_0.length c0_0), (.slice A0_1 l0_1.length c0_1)] 29 (0, 0))) ∧ Aside0 (Below w.heap.size w w'))
        case atStart => exact ⟨(0), (by first | rfl | (simp; done) | (simp [*]; done)), H', ⟨Nat.le_refl _⟩, ⟨by (with_reducible repeat (first | refine blk_drewN ?_ _ | refine blk_drew ?_ | refine blk_alloc ?_ _)); exact BK507.out⟩, ⟨by repeat (first | (with_reducible first | exact HB.out | apply below_alloc | apply pw_below_drewN | apply below_drew1 | refine below_set ?_ GE507.out) | exact HB.out)⟩⟩
        case round =>
          clear H'
          try clear p2
          try clear c4
          try clear c4b0
          try clear c4b1
          try clear c7
          try clear hcz5_0
          try clear hcz5_1
          try clear hcz6_0
          try clear hcz6_1
          try clear hfz5_0
          try clear hfz5_1
          try clear hfz6_0
          try clear hfz6_1
          try clear p2
          obtain ⟨x3_2, rfl, HA, HK2, BK507, HB⟩ := hrel
          cases gk with
          | zero => exact absurd HA.out (by simp [letterbagref32_Valid.l0])
          | succ k2 =>
            have H := HA.out
            clear HA
            simp only [letterbagref32_Valid.l0] at H
            by_cases c8 : x3_2 < (l0_0.length : Int)
            · rw [if_pos c8] at H
              have c8b0 : decide (x3_2 < (l0_0.length : Int)) = true := decide_eq_true c8
              clear c8
              by_cases c9 : 0 ≤ x3_2
              · rw [if_pos c9] at H
                have c9b0 : decide (0 ≤ x3_2) = true := decide_eq_true c9
                clear c9
                replace H := Option.bind_eq_some_iff.mp H
                obtain ⟨t509, A100, H⟩ := H
                replace H : (if t509 = true then ((letterbagref32_has.f k2 l0_0 (rd l0_0 x3_2)).bind fun t511 => (if t511 > 1 then (some 320) else (letterbagref32_Valid.l0 k2 (wrap64 (x3_2 + 1)) l0_0 l0_1))) else (some 320)) = some r := H
                have A10 := Aside0.mk A100
                clear A100
                by_cases c11 : t509 = true
                · subst c11
                  have H1 : ((letterbagref32_has.f k2 l0_0 (rd l0_0 x3_2)).bind fun t511 => (if t511 > 1 then (some 320) else (letterbagref32_Valid.l0 k2 (wrap64 (x3_2 + 1)) l0_0 l0_1))) = some r := by rw [if_pos rfl] at H; exact H
                  clear H
                  have H := H1
                  clear H1
                  replace H := Option.bind_eq_some_iff.mp H
                  obtain ⟨t511, A120, H⟩ := H
                  replace H : (if t511 > 1 then (some 320) else (letterbagref32_Valid.l0 k2 (wrap64 (x3_2 + 1)) l0_0 l0_1)) = some r := H
                  have A12 := Aside0.mk A120
                  clear A120
                  by_cases c13 : t511 > 1
                  · rw [if_pos c13] at H
                    have c13b0 : decide (1 < t511) = true := decide_eq_true c13
                    clear c13
                    obtain rfl := Option.some.inj H
                    have hcz14_0 : wr.cell? ⟨gb507, 0, none⟩ = some (.slice A0_0 l0_0.length c0_0) := (blk_cell BK507.out 0).trans rfl
                    have hcz14_1 : wr.cell? ⟨gb507, 1, none⟩ = some (.slice A0_1 l0_1.length c0_1) := (blk_cell BK507.out 1).trans rfl
                    have hfz14_0 := blk_frozen BK507.out 0
                    have hfz14_1 := blk_frozen BK507.out 1
                    have p508 : 0 ≤ (x3_2 : Int) := of_decide_eq_true (by first | (with_reducible assumption) | assumption)
                    have q508 : x3_2 < (l0_0.length : Int) := of_decide_eq_true (by first | (with_reducible assumption) | assumption)
                    obtain ⟨ad508, e508, hx508_0⟩ := Kd.at_int HR0_0.out x3_2 p508 q508
                    cases e508
                    replace hx508_0 := (HB.out.cell (World.block_lt_of_cell? w _ hx508_0)).trans hx508_0
                    replace p508 := eq_true p508
                    replace q508 := eq_true q508
                    go_wp2_with (first | (go_at_call 100; (with_reducible refine (letterbagref32_in.calls (rd l0_0 x3_2) 1 999999 true _ A10.out).mono ?_); rintro e w' ⟨rfl, ⟨nd, rfl⟩⟩; (try first | exact ⟨rfl, _, World.drewN_drewN _ _ _⟩ | exact ⟨rfl, _, Eq.trans (World.drewN_drewN _ _ _) (congrArg (World.drewN _) (Nat.add_assoc _ _ _))⟩); have p510 : 0 ≤ (x3_2 : Int) := of_decide_eq_true (by first | (with_reducible assumption) | assumption); have q510 : x3_2 < (l0_0.length : Int) := of_decide_eq_true (by first | (with_reducible assumption) | assumption); obtain ⟨ad510, e510, hx510_0⟩ := Kd.at_int HR0_0.out x3_2 p510 q510; obtain rfl : ad508 = ad510 := (by injection e510); replace hx510_0 := (HB.out.cell (World.block_lt_of_cell? w _ hx510_0)).trans hx510_0; replace p510 := eq_true p510; replace q510 := eq_true q510) | (go_at_call 107; (with_reducible refine (letterbagref32_has.calls k2 _ _ l0_0 (rd l0_0 x3_2) t511 _ ?side1 ?side2 A12.out).mono ?_); (case side1 => repeat (first | exact (Kd.C_below HR0_0.out (by repeat (first | (with_reducible first | exact HB.out | apply below_alloc | apply pw_below_drewN | apply below_drew1 | refine below_set ?_ GE507.out) | exact HB.out))) | (with_reducible refine Kd.C_alloc ?_ _) | (with_reducible refine Kd.C_drewN ?_ _) | (with_reducible refine Kd.C_drew ?_))); (case side2 => exact HC0_0.out); rintro e w' ⟨rfl, ⟨nd, rfl⟩⟩; (try first | exact ⟨rfl, _, World.drewN_drewN _ _ _⟩ | exact ⟨rfl, _, Eq.trans (World.drewN_drewN _ _ _) (congrArg (World.drewN _) (Nat.add_assoc _ _ _))⟩)))
                    repeat (go_quiet (first | (go_at_call 100; (with_reducible refine (letterbagref32_in.calls (rd l0_0 x3_2) 1 999999 true _ A10.out).mono ?_); rintro e w' ⟨rfl, ⟨nd, rfl⟩⟩; (try first | exact ⟨rfl, _, World.drewN_drewN _ _ _⟩ | exact ⟨rfl, _, Eq.trans (World.drewN_drewN _ _ _) (congrArg (World.drewN _) (Nat.add_assoc _ _ _))⟩); have p510 : 0 ≤ (x3_2 : Int) := of_decide_eq_true (by first | (with_reducible assumption) | assumption); have q510 : x3_2 < (l0_0.length : Int) := of_decide_eq_true (by first | (with_reducible assumption) | assumption); obtain ⟨ad510, e510, hx510_0⟩ := Kd.at_int HR0_0.out x3_2 p510 q510; obtain rfl : ad508 = ad510 := (by injection e510); replace hx510_0 := (HB.out.cell (World.block_lt_of_cell? w _ hx510_0)).trans hx510_0; replace p510 := eq_true p510; replace q510 := eq_true q510) | (go_at_call 107; (with_reducible refine (letterbagref32_has.calls k2 _ _ l0_0 (rd l0_0 x3_2) t511 _ ?side1 ?side2 A12.out).mono ?_); (case side1 => repeat (first | exact (Kd.C_below HR0_0.out (by repeat (first | (with_reducible first | exact HB.out | apply below_alloc | apply pw_below_drewN | apply below_drew1 | refine below_set ?_ GE507.out) | exact HB.out))) | (with_reducible refine Kd.C_alloc ?_ _) | (with_reducible refine Kd.C_drewN ?_ _) | (with_reducible refine Kd.C_drew ?_))); (case side2 => exact HC0_0.out); rintro e w' ⟨rfl, ⟨nd, rfl⟩⟩; (try first | exact ⟨rfl, _, World.drewN_drewN _ _ _⟩ | exact ⟨rfl, _, Eq.trans (World.drewN_drewN _ _ _) (congrArg (World.drewN _) (Nat.add_assoc _ _ _))⟩))); try go_wp2_with (first | (go_at_call 100; (with_reducible refine (letterbagref32_in.calls (rd l0_0 x3_2) 1 999999 true _ A10.out).mono ?_); rintro e w' ⟨rfl, ⟨nd, rfl⟩⟩; (try first | exact ⟨rfl, _, World.drewN_drewN _ _ _⟩ | exact ⟨rfl, _, Eq.trans (World.drewN_drewN _ _ _) (congrArg (World.drewN _) (Nat.add_assoc _ _ _))⟩); have p510 : 0 ≤ (x3_2 : Int) := of_decide_eq_true (by first | (with_reducible assumption) | assumption); have q510 : x3_2 < (l0_0.length : Int) := of_decide_eq_true (by first | (with_reducible assumption) | assumption); obtain ⟨ad510, e510, hx510_0⟩ := Kd.at_int HR0_0.out x3_2 p510 q510; obtain rfl : ad508 = ad510 := (by injection e510); replace hx510_0 := (HB.out.cell (World.block_lt_of_cell? w _ hx510_0)).trans hx510_0; replace p510 := eq_true p510; replace q510 := eq_true q510) | (go_at_call 107; (with_reducible refine (letterbagref32_has.calls k2 _ _ l0_0 (rd l0_0 x3_2) t511 _ ?side1 ?side2 A12.out).mono ?_); (case side1 => repeat (first | exact (Kd.C_below HR0_0.out (by repeat (first | (with_reducible first | exact HB.out | apply below_alloc | apply pw_below_drewN | apply below_drew1 | refine below_set ?_ GE507.out) | exact HB.out))) | (with_reducible refine Kd.C_alloc ?_ _) | (with_reducible refine Kd.C_drewN ?_ _) | (with_reducible refine Kd.C_drew ?_))); (case side2 => exact HC0_0.out); rintro e w' ⟨rfl, ⟨nd, rfl⟩⟩; (try first | exact ⟨rfl, _, World.drewN_drewN _ _ _⟩ | exact ⟨rfl, _, Eq.trans (World.drewN_drewN _ _ _) (congrArg (World.drewN _) (Nat.add_assoc _ _ _))⟩))))
                    go_ret
                    exact ⟨by first | rfl | (simp [errW_none, errW_some] <;> rfl) | (simp [*, errW_none, errW_some] <;> rfl), by repeat (first | (with_reducible first | exact HB.out | apply below_alloc | apply pw_below_drewN | apply below_drew1 | refine below_set ?_ GE507.out) | exact HB.out)⟩
                  · rw [if_neg c13] at H
                    have c13b0 : decide (1 < t511) = false := decide_eq_false c13
                    clear c13
                    have H' := Aside0.mk H
                    clear H
                    have hcz15_0 : wr.cell? ⟨gb507, 0, none⟩ = some (.slice A0_0 l0_0.length c0_0) := (blk_cell BK507.out 0).trans rfl
                    have hcz15_1 : wr.cell? ⟨gb507, 1, none⟩ = some (.slice A0_1 l0_1.length c0_1) := (blk_cell BK507.out 1).trans rfl
                    have hfz15_0 := blk_frozen BK507.out 0
                    have hfz15_1 := blk_frozen BK507.out 1
                    have p508 : 0 ≤ (x3_2 : Int) := of_decide_eq_true (by first | (with_reducible assumption) | assumption)
                    have q508 : x3_2 < (l0_0.length : Int) := of_decide_eq_true (by first | (with_reducible assumption) | assumption)
                    obtain ⟨ad508, e508, hx508_0⟩ := Kd.at_int HR0_0.out x3_2 p508 q508
                    cases e508
                    replace hx508_0 := (HB.out.cell (World.block_lt_of_cell? w _ hx508_0)).trans hx508_0
                    replace p508 := eq_true p508
                    replace q508 := eq_true q508
                    go_wp2_with (first | (go_at_call 100; (with_reducible refine (letterbagref32_in.calls (rd l0_0 x3_2) 1 999999 true _ A10.out).mono ?_); rintro e w' ⟨rfl, ⟨nd, rfl⟩⟩; (try first | exact ⟨rfl, _, World.drewN_drewN _ _ _⟩ | exact ⟨rfl, _, Eq.trans (World.drewN_drewN _ _ _) (congrArg (World.drewN _) (Nat.add_assoc _ _ _))⟩); have p510 : 0 ≤ (x3_2 : Int) := of_decide_eq_true (by first | (with_reducible assumption) | assumption); have q510 : x3_2 < (l0_0.length : Int) := of_decide_eq_true (by first | (with_reducible assumption) | assumption); obtain ⟨ad510, e510, hx510_0⟩ := Kd.at_int HR0_0.out x3_2 p510 q510; obtain rfl : ad508 = ad510 := (by injection e510); replace hx510_0 := (HB.out.cell (World.block_lt_of_cell? w _ hx510_0)).trans hx510_0; replace p510 := eq_true p510; replace q510 := eq_true q510) | (go_at_call 107; (with_reducible refine (letterbagref32_has.calls k2 _ _ l0_0 (rd l0_0 x3_2) t511 _ ?side1 ?side2 A12.out).mono ?_); (case side1 => repeat (first | exact (Kd.C_below HR0_0.out (by repeat (first | (with_reducible first | exact HB.out | apply below_alloc | apply pw_below_drewN | apply below_drew1 | refine below_set ?_ GE507.out) | exact HB.out))) | (with_reducible refine Kd.C_alloc ?_ _) | (with_reducible refine Kd.C_drewN ?_ _) | (with_reducible refine Kd.C_drew ?_))); (case side2 => exact HC0_0.out); rintro e w' ⟨rfl, ⟨nd, rfl⟩⟩; (try first | exact ⟨rfl, _, World.drewN_drewN _ _ _⟩ | exact ⟨rfl, _, Eq.trans (World.drewN_drewN _ _ _) (congrArg (World.drewN _) (Nat.add_assoc _ _ _))⟩)))
                    repeat (go_quiet (first | (go_at_call 100; (with_reducible refine (letterbagref32_in.calls (rd l0_0 x3_2) 1 999999 true _ A10.out).mono ?_); rintro e w' ⟨rfl, ⟨nd, rfl⟩⟩; (try first | exact ⟨rfl, _, World.drewN_drewN _ _ _⟩ | exact ⟨rfl, _, Eq.trans (World.drewN_drewN _ _ _) (congrArg (World.drewN _) (Nat.add_assoc _ _ _))⟩); have p510 : 0 ≤ (x3_2 : Int) := of_decide_eq_true (by first | (with_reducible assumption) | assumption); have q510 : x3_2 < (l0_0.length : Int) := of_decide_eq_true (by first | (with_reducible assumption) | assumption); obtain ⟨ad510, e510, hx510_0⟩ := Kd.at_int HR0_0.out x3_2 p510 q510; obtain rfl : ad508 = ad510 := (by injection e510); replace hx510_0 := (HB.out.cell (World.block_lt_of_cell? w _ hx510_0)).trans hx510_0; replace p510 := eq_true p510; replace q510 := eq_true q510) | (go_at_call 107; (with_reducible refine (letterbagref32_has.calls k2 _ _ l0_0 (rd l0_0 x3_2) t511 _ ?side1 ?side2 A12.out).mono ?_); (case side1 => repeat (first | exact (Kd.C_below HR0_0.out (by repeat (first | (with_reducible first | exact HB.out | apply below_alloc | apply pw_below_drewN | apply below_drew1 | refine below_set ?_ GE507.out) | exact HB.out))) | (with_reducible refine Kd.C_alloc ?_ _) | (with_reducible refine Kd.C_drewN ?_ _) | (with_reducible refine Kd.C_drew ?_))); (case side2 => exact HC0_0.out); rintro e w' ⟨rfl, ⟨nd, rfl⟩⟩; (try first | exact ⟨rfl, _, World.drewN_drewN _ _ _⟩ | exact ⟨rfl, _, Eq.trans (World.drewN_drewN _ _ _) (congrArg (World.drewN _) (Nat.add_assoc _ _ _))⟩))); try go_wp2_with (first | (go_at_call 100; (with_reducible refine (letterbagref32_in.calls (rd l0_0 x3_2) 1 999999 true _ A10.out).mono ?_); rintro e w' ⟨rfl, ⟨nd, rfl⟩⟩; (try first | exact ⟨rfl, _, World.drewN_drewN _ _ _⟩ | exact ⟨rfl, _, Eq.trans (World.drewN_drewN _ _ _) (congrArg (World.drewN _) (Nat.add_assoc _ _ _))⟩); have p510 : 0 ≤ (x3_2 : Int) := of_decide_eq_true (by first | (with_reducible assumption) | assumption); have q510 : x3_2 < (l0_0.length : Int) := of_decide_eq_true (by first | (with_reducible assumption) | assumption); obtain ⟨ad510, e510, hx510_0⟩ := Kd.at_int HR0_0.out x3_2 p510 q510; obtain rfl : ad508 = ad510 := (by injection e510); replace hx510_0 := (HB.out.cell (World.block_lt_of_cell? w _ hx510_0)).trans hx510_0; replace p510 := eq_true p510; replace q510 := eq_true q510) | (go_at_call 107; (with_reducible refine (letterbagref32_has.calls k2 _ _ l0_0 (rd l0_0 x3_2) t511 _ ?side1 ?side2 A12.out).mono ?_); (case side1 => repeat (first | exact (Kd.C_below HR0_0.out (by repeat (first | (with_reducible first | exact HB.out | apply below_alloc | apply pw_below_drewN | apply below_drew1 | refine below_set ?_ GE507.out) | exact HB.out))) | (with_reducible refine Kd.C_alloc ?_ _) | (with_reducible refine Kd.C_drewN ?_ _) | (with_reducible refine Kd.C_drew ?_))); (case side2 => exact HC0_0.out); rintro e w' ⟨rfl, ⟨nd, rfl⟩⟩; (try first | exact ⟨rfl, _, World.drewN_drewN _ _ _⟩ | exact ⟨rfl, _, Eq.trans (World.drewN_drewN _ _ _) (congrArg (World.drewN _) (Nat.add_assoc _ _ _))⟩))))
                    go_roundg k2
                    case measure => have := HJ1.out; have := HK2.out; omega
                    case rel => exact ⟨(wrap64 (x3_2 + 1)), (by first | rfl | (simp; done) | (simp [*]; done)), H', ⟨by have := HJ1.out; have := HK2.out; omega⟩, ⟨by (with_reducible repeat (first | refine blk_drewN ?_ _ | refine blk_drew ?_ | refine blk_alloc ?_ _)); exact BK507.out⟩, ⟨by repeat (first | (with_reducible first | exact HB.out | apply below_alloc | apply pw_below_drewN | apply below_drew1 | refine below_set ?_ GE507.out) | exact HB.out)⟩⟩
                · replace c11 := Bool.eq_false_iff.mpr c11
                  subst c11
                  have H1 : (some 320) = some r := by rw [if_neg (show ¬ (false = true) by decide)] at H; exact H
                  clear H
                  have H := H1
                  clear H1
                  obtain rfl := Option.some.inj H
                  have hcz16_0 : wr.cell? ⟨gb507, 0, none⟩ = some (.slice A0_0 l0_0.length c0_0) := (blk_cell BK507.out 0).trans rfl
                  have hcz16_1 : wr.cell? ⟨gb507, 1, none⟩ = some (.slice A0_1 l0_1.length c0_1) := (blk_cell BK507.out 1).trans rfl
                  have hfz16_0 := blk_frozen BK507.out 0
                  have hfz16_1 := blk_frozen BK507.out 1
                  have p508 : 0 ≤ (x3_2 : Int) := of_decide_eq_true (by first | (with_reducible assumption) | assumption)
                  have q508 : x3_2 < (l0_0.length : Int) := of_decide_eq_true (by first | (with_reducible assumption) | assumption)
                  obtain ⟨ad508, e508, hx508_0⟩ := Kd.at_int HR0_0.out x3_2 p508 q508
                  cases e508
                  replace hx508_0 := (HB.out.cell (World.block_lt_of_cell? w _ hx508_0)).trans hx508_0
                  replace p508 := eq_true p508
                  replace q508 := eq_true q508
                  go_wp2_with (first | (go_at_call 100; (with_reducible refine (letterbagref32_in.calls (rd l0_0 x3_2) 1 999999 false _ A10.out).mono ?_); rintro e w' ⟨rfl, ⟨nd, rfl⟩⟩; (try first | exact ⟨rfl, _, World.drewN_drewN _ _ _⟩ | exact ⟨rfl, _, Eq.trans (World.drewN_drewN _ _ _) (congrArg (World.drewN _) (Nat.add_assoc _ _ _))⟩)))
                  repeat (go_quiet (first | (go_at_call 100; (with_reducible refine (letterbagref32_in.calls (rd l0_0 x3_2) 1 999999 false _ A10.out).mono ?_); rintro e w' ⟨rfl, ⟨nd, rfl⟩⟩; (try first | exact ⟨rfl, _, World.drewN_drewN _ _ _⟩ | exact ⟨rfl, _, Eq.trans (World.drewN_drewN _ _ _) (congrArg (World.drewN _) (Nat.add_assoc _ _ _))⟩))); try go_wp2_with (first | (go_at_call 100; (with_reducible refine (letterbagref32_in.calls (rd l0_0 x3_2) 1 999999 false _ A10.out).mono ?_); rintro e w' ⟨rfl, ⟨nd, rfl⟩⟩; (try first | exact ⟨rfl, _, World.drewN_drewN _ _ _⟩ | exact ⟨rfl, _, Eq.trans (World.drewN_drewN _ _ _) (congrArg (World.drewN _) (Nat.add_assoc _ _ _))⟩))))
                  go_ret
                  exact ⟨by first | rfl | (simp [errW_none, errW_some] <;> rfl) | (simp [*, errW_none, errW_some] <;> rfl), by repeat (first | (with_reducible first | exact HB.out | apply below_alloc | apply pw_below_drewN | apply below_drew1 | refine below_set ?_ GE507.out) | exact HB.out)⟩
              · rw [if_neg c9] at H
                exact absurd H (by simp)
            · rw [if_neg c8] at H
              have c8b0 : decide (x3_2 < (l0_0.length : Int)) = false := decide_eq_false c8
              clear c8
              have H' := Aside0.mk H
              clear H
              have hcz17_0 : wr.cell? ⟨gb507, 0, none⟩ = some (.slice A0_0 l0_0.length c0_0) := (blk_cell BK507.out 0).trans rfl
              have hcz17_1 : wr.cell? ⟨gb507, 1, none⟩ = some (.slice A0_1 l0_1.length c0_1) := (blk_cell BK507.out 1).trans rfl
              have hfz17_0 := blk_frozen BK507.out 0
              have hfz17_1 := blk_frozen BK507.out 1
              go_wp2
              repeat (go_quiet (fail); try go_wp2)
              go_loopg [4] k2 (fun kq v4 w' => ∃ (x4_3 : Int), v4 = .int .i64 x4_3 ∧ Aside0 (letterbagref32_Valid.l1 kq x4_3 l0_0 l0_1 = some r) ∧ Aside0 (kq ≤ k2) ∧ Aside0 (w'.heap[gb507]? = some (.cells #[(.slice A0_0 l0_0.length c0_0), (.slice A0_1 l0_1.length c0_1)] 29 (0, 0))) ∧ Aside0 (Below w.heap.size w w'))
              case atStart => exact ⟨(0), (by first | rfl | (simp; done) | (simp [*]; done)), H', ⟨Nat.le_refl _⟩, ⟨by (with_reducible repeat (first | refine blk_drewN ?_ _ | refine blk_drew ?_ | refine blk_alloc ?_ _)); exact BK507.out⟩, ⟨by repeat (first | (with_reducible first | exact HB.out | apply below_alloc | apply pw_below_drewN | apply below_drew1 | refine below_set ?_ GE507.out) | exact HB.out)⟩⟩
              case round =>
                clear H'
                try clear c1
                try clear p2
                try clear c4
                try clear c4b0
                try clear c4b1
                try clear p5
                try clear q5
                try clear hx5
                try clear p6
                try clear c7
                try clear c8
                try clear c8b0
                try clear c9
                try clear c9b0
                try clear c11
                try clear c13
                try clear c13b0
                try clear hcz14_0
                try clear hcz14_1
                try clear hcz15_0
                try clear hcz15_1
                try clear hcz16_0
                try clear hcz16_1
                try clear hcz17_0
                try clear hcz17_1
                try clear hcz5_0
                try clear hcz5_1
                try clear hcz6_0
                try clear hcz6_1
                try clear hfz14_0
                try clear hfz14_1
                try clear hfz15_0
                try clear hfz15_1
                try clear hfz16_0
                try clear hfz16_1
                try clear hfz17_0
                try clear hfz17_1
                try clear hfz5_0
                try clear hfz5_1
                try clear hfz6_0
                try clear hfz6_1
                try clear hx508_0
                try clear hx510_0
                try clear p2
                try clear p508
                try clear p510
                try clear q508
                try clear q510
                obtain ⟨x4_3, rfl, HA, HK3, BK507, HB⟩ := hrel
                cases gk with
                | zero => exact absurd HA.out (by simp [letterbagref32_Valid.l1])
                | succ k3 =>
                  have H := HA.out
                  clear HA
                  simp only [letterbagref32_Valid.l1] at H
                  by_cases c18 : x4_3 < (l0_1.length : Int)
                  · rw [if_pos c18] at H
                    have c18b0 : decide (x4_3 < (l0_1.length : Int)) = true := decide_eq_true c18
                    clear c18
                    by_cases c19 : 0 ≤ x4_3
                    · rw [if_pos c19] at H
                      have c19b0 : decide (0 ≤ x4_3) = true := decide_eq_true c19
                      clear c19
                      have HC20 := Aside0.mk H
                      clear H
                      have hcz21_0 : wr.cell? ⟨gb507, 0, none⟩ = some (.slice A0_0 l0_0.length c0_0) := (blk_cell BK507.out 0).trans rfl
                      have hcz21_1 : wr.cell? ⟨gb507, 1, none⟩ = some (.slice A0_1 l0_1.length c0_1) := (blk_cell BK507.out 1).trans rfl
                      have hfz21_0 := blk_frozen BK507.out 0
                      have hfz21_1 := blk_frozen BK507.out 1
                      have p512 : 0 ≤ (x4_3 : Int) := of_decide_eq_true (by first | (with_reducible assumption) | assumption)
                      have q512 : x4_3 < (l0_1.length : Int) := of_decide_eq_true (by first | (with_reducible assumption) | assumption)
                      obtain ⟨ad512, e512, hx512_0, hx512_1, hx512_2, hx512_3, hx512_4, hx512_5, hx512_6, hx512_7⟩ := at_T23 HR0_1.out x4_3 p512 q512
                      cases e512
                      replace hx512_0 := (HB.out.cell (World.block_lt_of_cell? w _ hx512_0)).trans hx512_0
                      replace hx512_1 := (HB.out.cell (World.block_lt_of_cell? w _ hx512_1)).trans hx512_1
                      replace hx512_2 := (HB.out.cell (World.block_lt_of_cell? w _ hx512_2)).trans hx512_2
                      replace hx512_3 := (HB.out.cell (World.block_lt_of_cell? w _ hx512_3)).trans hx512_3
                      replace hx512_4 := (HB.out.cell (World.block_lt_of_cell? w _ hx512_4)).trans hx512_4
                      replace hx512_5 := (HB.out.cell (World.block_lt_of_cell? w _ hx512_5)).trans hx512_5
                      replace hx512_6 := (HB.out.cell (World.block_lt_of_cell? w _ hx512_6)).trans hx512_6
                      replace hx512_7 := (HB.out.cell (World.block_lt_of_cell? w _ hx512_7)).trans hx512_7
                      replace p512 := eq_true p512
                      replace q512 := eq_true q512
                      go_upto_region 12 with (first | ((with_reducible refine gate_dst (N := 5) rfl ?_); (try (refine gate_guard (by rfl) ?_; dsimp only)); refine box_event ?hg (N := 5) ?hd (cs := #[.int .i64 0, .int .i64 0, .int .i64 0, .int .i64 0, .int .i64 0, .int .i64 0, .int .i64 0, .int .u8 0]) (t := 23) ?hr ?_; (case hd => rfl); (case hg => rfl); (case hr => first | (go_simp; done) | (go_simp; rfl)); intro gb513 hg w22 hbox hb; have n0_ := Aside0.mk (blk_below (g := gb507) (o := .cells #[.slice A0_0 l0_0.length c0_0, .slice (some ad512) l0_1.length c0_1] 29 (0, 0)) (by (with_reducible repeat (first | refine blk_drewN ?_ _ | refine blk_drew ?_ | refine blk_alloc ?_ _)); exact BK507.out) hb); have n1_ := Aside0.mk (below_step (by repeat (first | (with_reducible first | exact HB.out | apply below_alloc | apply pw_below_drewN | apply below_drew1 | refine below_set ?_ GE507.out) | exact HB.out)) hb); have n2_ := Aside0.mk (hbox); have n3_ := Aside0.mk ((by rw [hg]; exact (below_size (by repeat (first | (with_reducible first | exact HB.out | apply below_alloc | apply pw_below_drewN | apply below_drew1 | refine below_set ?_ GE507.out) | exact HB.out))) : w.heap.size ≤ gb513)); have n4_ := Aside0.mk ((by rw [hg]; exact (below_size (by repeat (first | (with_reducible first | exact HB.out | apply below_alloc | apply pw_below_drewN | apply below_drew1 | refine below_set ?_ GE507.out) | exact HB.out))) : w.heap.size ≤ gb513)); have n5_ := Aside0.mk ((by rw [hg]; exact Nat.ne_of_lt (blk_lt (g := gb507) (o := .cells #[.slice A0_0 l0_0.length c0_0, .slice (some ad512) l0_1.length c0_1] 29 (0, 0)) (by (with_reducible repeat (first | refine blk_drewN ?_ _ | refine blk_drew ?_ | refine blk_alloc ?_ _)); exact BK507.out)) : gb507 ≠ gb513)); have n6_ := Aside0.mk ((by rw [hg]; exact Nat.ne_of_gt (blk_lt (g := gb507) (o := .cells #[.slice A0_0 l0_0.length c0_0, .slice (some ad512) l0_1.length c0_1] 29 (0, 0)) (by (with_reducible repeat (first | refine blk_drewN ?_ _ | refine blk_drew ?_ | refine blk_alloc ?_ _)); exact BK507.out)) : gb513 ≠ gb507)); clear BK507; clear HB; have BK507 := n0_; have HB := n1_; have BK513 := n2_; have GW513 := n3_; have GE513 := n4_; have NB507_513 := n5_; have NB513_507 := n6_; clear n0_ n1_ n2_ n3_ n4_ n5_ n6_; clear hb hbox hg; have hnb23 := NB513_507.out; have hnc23 := NB507_513.out; have hcz24_0 : w22.cell? ⟨gb513, 0, none⟩ = some (.int .i64 0) := (blk_cell BK513.out 0).trans rfl; have hcz24_1 : w22.cell? ⟨gb513, 1, none⟩ = some (.int .i64 0) := (blk_cell BK513.out 1).trans rfl; have hcz24_2 : w22.cell? ⟨gb513, 2, none⟩ = some (.int .i64 0) := (blk_cell BK513.out 2).trans rfl; have hcz24_3 : w22.cell? ⟨gb513, 3, none⟩ = some (.int .i64 0) := (blk_cell BK513.out 3).trans rfl; have hcz24_4 : w22.cell? ⟨gb513, 4, none⟩ = some (.int .i64 0) := (blk_cell BK513.out 4).trans rfl; have hcz24_5 : w22.cell? ⟨gb513, 5, none⟩ = some (.int .i64 0) := (blk_cell BK513.out 5).trans rfl; have hcz24_6 : w22.cell? ⟨gb513, 6, none⟩ = some (.int .i64 0) := (blk_cell BK513.out 6).trans rfl; have hcz24_7 : w22.cell? ⟨gb513, 7, none⟩ = some (.int .u8 0) := (blk_cell BK513.out 7).trans rfl; have hfz24_0 := blk_frozen BK513.out 0; have hfz24_1 := blk_frozen BK513.out 1; have hfz24_2 := blk_frozen BK513.out 2; have hfz24_3 := blk_frozen BK513.out 3; have hfz24_4 := blk_frozen BK513.out 4; have hfz24_5 := blk_frozen BK513.out 5; have hfz24_6 := blk_frozen BK513.out 6; have hfz24_7 := blk_frozen BK513.out 7))
                      repeat (go_quiet (first | ((with_reducible refine gate_dst (N := 5) rfl ?_); (try (refine gate_guard (by rfl) ?_; dsimp only)); refine box_event ?hg (N := 5) ?hd (cs := #[.int .i64 0, .int .i64 0, .int .i64 0, .int .i64 0, .int .i64 0, .int .i64 0, .int .i64 0, .int .u8 0]) (t := 23) ?hr ?_; (case hd => rfl); (case hg => rfl); (case hr => first | (go_simp; done) | (go_simp; rfl)); intro gb513 hg w22 hbox hb; have n0_ := Aside0.mk (blk_below (g := gb507) (o := .cells #[.slice A0_0 l0_0.length c0_0, .slice (some ad512) l0_1.length c0_1] 29 (0, 0)) (by (with_reducible repeat (first | refine blk_drewN ?_ _ | refine blk_drew ?_ | refine blk_alloc ?_ _)); exact BK507.out) hb); have n1_ := Aside0.mk (below_step (by repeat (first | (with_reducible first | exact HB.out | apply below_alloc | apply pw_below_drewN | apply below_drew1 | refine below_set ?_ GE507.out) | exact HB.out)) hb); have n2_ := Aside0.mk (hbox); have n3_ := Aside0.mk ((by rw [hg]; exact (below_size (by repeat (first | (with_reducible first | exact HB.out | apply below_alloc | apply pw_below_drewN | apply below_drew1 | refine below_set ?_ GE507.out) | exact HB.out))) : w.heap.size ≤ gb513)); have n4_ := Aside0.mk ((by rw [hg]; exact (below_size (by repeat (first | (with_reducible first | exact HB.out | apply below_alloc | apply pw_below_drewN | apply below_drew1 | refine below_set ?_ GE507.out) | exact HB.out))) : w.heap.size ≤ gb513)); have n5_ := Aside0.mk ((by rw [hg]; exact Nat.ne_of_lt (blk_lt (g := gb507) (o := .cells #[.slice A0_0 l0_0.length c0_0, .slice (some ad512) l0_1.length c0_1] 29 (0, 0)) (by (with_reducible repeat (first | refine blk_drewN ?_ _ | refine blk_drew ?_ | refine blk_alloc ?_ _)); exact BK507.out)) : gb507 ≠ gb513)); have n6_ := Aside0.mk ((by rw [hg]; exact Nat.ne_of_gt (blk_lt (g := gb507) (o := .cells #[.slice A0_0 l0_0.length c0_0, .slice (some ad512) l0_1.length c0_1] 29 (0, 0)) (by (with_reducible repeat (first | refine blk_drewN ?_ _ | refine blk_drew ?_ | refine blk_alloc ?_ _)); exact BK507.out)) : gb513 ≠ gb507)); clear BK507; clear HB; have BK507 := n0_; have HB := n1_; have BK513 := n2_; have GW513 := n3_; have GE513 := n4_; have NB507_513 := n5_; have NB513_507 := n6_; clear n0_ n1_ n2_ n3_ n4_ n5_ n6_; clear hb hbox hg; have hnb23 := NB513_507.out; have hnc23 := NB507_513.out; have hcz24_0 : w22.cell? ⟨gb513, 0, none⟩ = some (.int .i64 0) := (blk_cell BK513.out 0).trans rfl; have hcz24_1 : w22.cell? ⟨gb513, 1, none⟩ = some (.int .i64 0) := (blk_cell BK513.out 1).trans rfl; have hcz24_2 : w22.cell? ⟨gb513, 2, none⟩ = some (.int .i64 0) := (blk_cell BK513.out 2).trans rfl; have hcz24_3 : w22.cell? ⟨gb513, 3, none⟩ = some (.int .i64 0) := (blk_cell BK513.out 3).trans rfl; have hcz24_4 : w22.cell? ⟨gb513, 4, none⟩ = some (.int .i64 0) := (blk_cell BK513.out 4).trans rfl; have hcz24_5 : w22.cell? ⟨gb513, 5, none⟩ = some (.int .i64 0) := (blk_cell BK513.out 5).trans rfl; have hcz24_6 : w22.cell? ⟨gb513, 6, none⟩ = some (.int .i64 0) := (blk_cell BK513.out 6).trans rfl; have hcz24_7 : w22.cell? ⟨gb513, 7, none⟩ = some (.int .u8 0) := (blk_cell BK513.out 7).trans rfl; have hfz24_0 := blk_frozen BK513.out 0; have hfz24_1 := blk_frozen BK513.out 1; have hfz24_2 := blk_frozen BK513.out 2; have hfz24_3 := blk_frozen BK513.out 3; have hfz24_4 := blk_frozen BK513.out 4; have hfz24_5 := blk_frozen BK513.out 5; have hfz24_6 := blk_frozen BK513.out 6; have hfz24_7 := blk_frozen BK513.out 7)); go_upto_region 12 with (first | ((with_reducible refine gate_dst (N := 5) rfl ?_); (try (refine gate_guard (by rfl) ?_; dsimp only)); refine box_event ?hg (N := 5) ?hd (cs := #[.int .i64 0, .int .i64 0, .int .i64 0, .int .i64 0, .int .i64 0, .int .i64 0, .int .i64 0, .int .u8 0]) (t := 23) ?hr ?_; (case hd => rfl); (case hg => rfl); (case hr => first | (go_simp; done) | (go_simp; rfl)); intro gb513 hg w22 hbox hb; have n0_ := Aside0.mk (blk_below (g := gb507) (o := .cells #[.slice A0_0 l0_0.length c0_0, .slice (some ad512) l0_1.length c0_1] 29 (0, 0)) (by (with_reducible repeat (first | refine blk_drewN ?_ _ | refine blk_drew ?_ | refine blk_alloc ?_ _)); exact BK507.out) hb); have n1_ := Aside0.mk (below_step (by repeat (first | (with_reducible first | exact HB.out | apply below_alloc | apply pw_below_drewN | apply below_drew1 | refine below_set ?_ GE507.out) | exact HB.out)) hb); have n2_ := Aside0.mk (hbox); have n3_ := Aside0.mk ((by rw [hg]; exact (below_size (by repeat (first | (with_reducible first | exact HB.out | apply below_alloc | apply pw_below_drewN | apply below_drew1 | refine below_set ?_ GE507.out) | exact HB.out))) : w.heap.size ≤ gb513)); have n4_ := Aside0.mk ((by rw [hg]; exact (below_size (by repeat (first | (with_reducible first | exact HB.out | apply below_alloc | apply pw_below_drewN | apply below_drew1 | refine below_set ?_ GE507.out) | exact HB.out))) : w.heap.size ≤ gb513)); have n5_ := Aside0.mk ((by rw [hg]; exact Nat.ne_of_lt (blk_lt (g := gb507) (o := .cells #[.slice A0_0 l0_0.length c0_0, .slice (some ad512) l0_1.length c0_1] 29 (0, 0)) (by (with_reducible repeat (first | refine blk_drewN ?_ _ | refine blk_drew ?_ | refine blk_alloc ?_ _)); exact BK507.out)) : gb507 ≠ gb513)); have n6_ := Aside0.mk ((by rw [hg]; exact Nat.ne_of_gt (blk_lt (g := gb507) (o := .cells #[.slice A0_0 l0_0.length c0_0, .slice (some ad512) l0_1.length c0_1] 29 (0, 0)) (by (with_reducible repeat (first | refine blk_drewN ?_ _ | refine blk_drew ?_ | refine blk_alloc ?_ _)); exact BK507.out)) : gb513 ≠ gb507)); clear BK507; clear HB; have BK507 := n0_; have HB := n1_; have BK513 := n2_; have GW513 := n3_; have GE513 := n4_; have NB507_513 := n5_; have NB513_507 := n6_; clear n0_ n1_ n2_ n3_ n4_ n5_ n6_; clear hb hbox hg; have hnb23 := NB513_507.out; have hnc23 := NB507_513.out; have hcz24_0 : w22.cell? ⟨gb513, 0, none⟩ = some (.int .i64 0) := (blk_cell BK513.out 0).trans rfl; have hcz24_1 : w22.cell? ⟨gb513, 1, none⟩ = some (.int .i64 0) := (blk_cell BK513.out 1).trans rfl; have hcz24_2 : w22.cell? ⟨gb513, 2, none⟩ = some (.int .i64 0) := (blk_cell BK513.out 2).trans rfl; have hcz24_3 : w22.cell? ⟨gb513, 3, none⟩ = some (.int .i64 0) := (blk_cell BK513.out 3).trans rfl; have hcz24_4 : w22.cell? ⟨gb513, 4, none⟩ = some (.int .i64 0) := (blk_cell BK513.out 4).trans rfl; have hcz24_5 : w22.cell? ⟨gb513, 5, none⟩ = some (.int .i64 0) := (blk_cell BK513.out 5).trans rfl; have hcz24_6 : w22.cell? ⟨gb513, 6, none⟩ = some (.int .i64 0) := (blk_cell BK513.out 6).trans rfl; have hcz24_7 : w22.cell? ⟨gb513, 7, none⟩ = some (.int .u8 0) := (blk_cell BK513.out 7).trans rfl; have hfz24_0 := blk_frozen BK513.out 0; have hfz24_1 := blk_frozen BK513.out 1; have hfz24_2 := blk_frozen BK513.out 2; have hfz24_3 := blk_frozen BK513.out 3; have hfz24_4 := blk_frozen BK513.out 4; have hfz24_5 := blk_frozen BK513.out 5; have hfz24_6 := blk_frozen BK513.out 6; have hfz24_7 := blk_frozen BK513.out 7)))
                      (try simp only [Act.put, List.setIfInBounds_toArray, List.set_cons_zero, List.set_cons_succ])
                      go_cut [72] (fun v72 wc => ∃ (kq : Nat) (x72_19 : Bool), v72 = .bool x72_19 ∧ Aside0 (letterbagref32_Valid.j3 kq x4_3 x72_19 l0_0 l0_1 ((rd_T23 l0_1 x4_3).f0) ((rd_T23 l0_1 x4_3).f1) ((rd_T23 l0_1 x4_3).f2) ((rd_T23 l0_1 x4_3).f3) ((rd_T23 l0_1 x4_3).f4) ((rd_T23 l0_1 x4_3).f5) ((rd_T23 l0_1 x4_3).f6) ((rd_T23 l0_1 x4_3).f7) = some r) ∧ Aside0 (kq ≤ k3) ∧ Aside0 (wc.heap[gb507]? = some (.cells #[(.slice A0_0 l0_0.length c0_0), (.slice (some ad512) l0_1.length c0_1)] 29 (0, 0))) ∧ Aside0 (wc.heap[gb513]? = some (.cells #[.int .i64 ((rd_T23 l0_1 x4_3).f0), .int .i64 ((rd_T23 l0_1 x4_3).f1), .int .i64 ((rd_T23 l0_1 x4_3).f2), .int .i64 ((rd_T23 l0_1 x4_3).f3), .int .i64 ((rd_T23 l0_1 x4_3).f4), .int .i64 ((rd_T23 l0_1 x4_3).f5), .int .i64 ((rd_T23 l0_1 x4_3).f6), .int .u8 ((rd_T23 l0_1 x4_3).f7)] 23 (0, 0))) ∧ Aside0 (Below w.heap.size w wc))
                      case first =>
                        have H := HC20.out
                        clear HC20
                        replace H := Option.bind_eq_some_iff.mp H
                        obtain ⟨t514, A250, H⟩ := H
                        replace H : (if t514 = true then ((letterbagref32_has.f k3 l0_0 ((rd_T23 l0_1 x4_3).f1)).bind fun t515 => (if t515 = 0 then (letterbagref32_Valid.j3 k3 x4_3 true l0_0 l0_1 ((rd_T23 l0_1 x4_3).f0) ((rd_T23 l0_1 x4_3).f1) ((rd_T23 l0_1 x4_3).f2) ((rd_T23 l0_1 x4_3).f3) ((rd_T23 l0_1 x4_3).f4) ((rd_T23 l0_1 x4_3).f5) ((rd_T23 l0_1 x4_3).f6) ((rd_T23 l0_1 x4_3).f7)) else ((letterbagref32_has.f k3 l0_0 ((rd_T23 l0_1 x4_3).f2)).bind fun t516 => (letterbagref32_Valid.j3 k3 x4_3 (t516 == 0) l0_0 l0_1 ((rd_T23 l0_1 x4_3).f0) ((rd_T23 l0_1 x4_3).f1) ((rd_T23 l0_1 x4_3).f2) ((rd_T23 l0_1 x4_3).f3) ((rd_T23 l0_1 x4_3).f4) ((rd_T23 l0_1 x4_3).f5) ((rd_T23 l0_1 x4_3).f6) ((rd_T23 l0_1 x4_3).f7))))) else (letterbagref32_Valid.j3 k3 x4_3 true l0_0 l0_1 ((rd_T23 l0_1 x4_3).f0) ((rd_T23 l0_1 x4_3).f1) ((rd_T23 l0_1 x4_3).f2) ((rd_T23 l0_1 x4_3).f3) ((rd_T23 l0_1 x4_3).f4) ((rd_T23 l0_1 x4_3).f5) ((rd_T23 l0_1 x4_3).f6) ((rd_T23 l0_1 x4_3).f7))) = some r := H
                        have A25 := Aside0.mk A250
                        clear A250
                        by_cases c26 : t514 = true
                        · subst c26
                          have H1 : ((letterbagref32_has.f k3 l0_0 ((rd_T23 l0_1 x4_3).f1)).bind fun t515 => (if t515 = 0 then (letterbagref32_Valid.j3 k3 x4_3 true l0_0 l0_1 ((rd_T23 l0_1 x4_3).f0) ((rd_T23 l0_1 x4_3).f1) ((rd_T23 l0_1 x4_3).f2) ((rd_T23 l0_1 x4_3).f3) ((rd_T23 l0_1 x4_3).f4) ((rd_T23 l0_1 x4_3).f5) ((rd_T23 l0_1 x4_3).f6) ((rd_T23 l0_1 x4_3).f7)) else ((letterbagref32_has.f k3 l0_0 ((rd_T23 l0_1 x4_3).f2)).bind fun t516 => (letterbagref32_Valid.j3 k3 x4_3 (t516 == 0) l0_0 l0_1 ((rd_T23 l0_1 x4_3).f0) ((rd_T23 l0_1 x4_3).f1) ((rd_T23 l0_1 x4_3).f2) ((rd_T23 l0_1 x4_3).f3) ((rd_T23 l0_1 x4_3).f4) ((rd_T23 l0_1 x4_3).f5) ((rd_T23 l0_1 x4_3).f6) ((rd_T23 l0_1 x4_3).f7))))) = some r := by rw [if_pos rfl] at H; exact H
                          clear H
                          have H := H1
                          clear H1
                          replace H := Option.bind_eq_some_iff.mp H
                          obtain ⟨t515, A270, H⟩ := H
                          replace H : (if t515 = 0 then (letterbagref32_Valid.j3 k3 x4_3 true l0_0 l0_1 ((rd_T23 l0_1 x4_3).f0) ((rd_T23 l0_1 x4_3).f1) ((rd_T23 l0_1 x4_3).f2) ((rd_T23 l0_1 x4_3).f3) ((rd_T23 l0_1 x4_3).f4) ((rd_T23 l0_1 x4_3).f5) ((rd_T23 l0_1 x4_3).f6) ((rd_T23 l0_1 x4_3).f7)) else ((letterbagref32_has.f k3 l0_0 ((rd_T23 l0_1 x4_3).f2)).bind fun t516 => (letterbagref32_Valid.j3 k3 x4_3 (t516 == 0) l0_0 l0_1 ((rd_T23 l0_1 x4_3).f0) ((rd_T23 l0_1 x4_3).f1) ((rd_T23 l0_1 x4_3).f2) ((rd_T23 l0_1 x4_3).f3) ((rd_T23 l0_1 x4_3).f4) ((rd_T23 l0_1 x4_3).f5) ((rd_T23 l0_1 x4_3).f6) ((rd_T23 l0_1 x4_3).f7)))) = some r := H
                          have A27 := Aside0.mk A270
                          clear A270
                          by_cases c28 : t515 = 0
                          · rw [if_pos c28] at H
                            have c28b0 : (t515 == 0) = true := beq_iff_eq.mpr c28
                            have c28b1 : (t515 != 0) = false := bne_eq_false_iff_eq.mpr c28
                            clear c28
                            (first | rw [c28b0] | (simp only [i64_w, i32_w]; rw [c28b0]) | skip)
                            have H' := Aside0.mk H
                            clear H
                            have hnb29 := NB513_507.out
                            have hnc29 := NB507_513.out
                            have hcz30_0 : w22.cell? ⟨gb513, 0, none⟩ = some (.int .i64 0) := (blk_cell BK513.out 0).trans rfl
                            have hcz30_1 : w22.cell? ⟨gb513, 1, none⟩ = some (.int .i64 0) := (blk_cell BK513.out 1).trans rfl
                            have hcz30_2 : w22.cell? ⟨gb513, 2, none⟩ = some (.int .i64 0) := (blk_cell BK513.out 2).trans rfl
                            have hcz30_3 : w22.cell? ⟨gb513, 3, none⟩ = some (.int .i64 0) := (blk_cell BK513.out 3).trans rfl
                            have hcz30_4 : w22.cell? ⟨gb513, 4, none⟩ = some (.int .i64 0) := (blk_cell BK513.out 4).trans rfl
                            have hcz30_5 : w22.cell? ⟨gb513, 5, none⟩ = some (.int .i64 0) := (blk_cell BK513.out 5).trans rfl
                            have hcz30_6 : w22.cell? ⟨gb513, 6, none⟩ = some (.int .i64 0) := (blk_cell BK513.out 6).trans rfl
                            have hcz30_7 : w22.cell? ⟨gb513, 7, none⟩ = some (.int .u8 0) := (blk_cell BK513.out 7).trans rfl
                            have hfz30_0 := blk_frozen BK513.out 0
                            have hfz30_1 := blk_frozen BK513.out 1
                            have hfz30_2 := blk_frozen BK513.out 2
                            have hfz30_3 := blk_frozen BK513.out 3
                            have hfz30_4 := blk_frozen BK513.out 4
                            have hfz30_5 := blk_frozen BK513.out 5
                            have hfz30_6 := blk_frozen BK513.out 6
                            have hfz30_7 := blk_frozen BK513.out 7
                            go_wp2_with (first | (go_at_call 99; (with_reducible refine (letterbagref32_Right.calls ((rd_T23 l0_1 x4_3).f0) ((rd_T23 l0_1 x4_3).f1) ((rd_T23 l0_1 x4_3).f2) ((rd_T23 l0_1 x4_3).f3) ((rd_T23 l0_1 x4_3).f4) ((rd_T23 l0_1 x4_3).f5) ((rd_T23 l0_1 x4_3).f6) ((rd_T23 l0_1 x4_3).f7) true _ A25.out).mono ?_); rintro e w31 ⟨rfl, hb⟩; have n0_ := Aside0.mk (blk_below (g := gb507) (o := .cells #[.slice A0_0 l0_0.length c0_0, .slice (some ad512) l0_1.length c0_1] 29 (0, 0)) (by (with_reducible repeat (first | refine blk_drewN ?_ _ | refine blk_drew ?_ | refine blk_alloc ?_ _)); refine blk_far ?_ NB507_513.out _; (with_reducible repeat (first | refine blk_drewN ?_ _ | refine blk_drew ?_ | refine blk_alloc ?_ _)); refine blk_far ?_ NB507_513.out _; (with_reducible repeat (first | refine blk_drewN ?_ _ | refine blk_drew ?_ | refine blk_alloc ?_ _)); refine blk_far ?_ NB507_513.out _; (with_reducible repeat (first | refine blk_drewN ?_ _ | refine blk_drew ?_ | refine blk_alloc ?_ _)); refine blk_far ?_ NB507_513.out _; (with_reducible repeat (first | refine blk_drewN ?_ _ | refine blk_drew ?_ | refine blk_alloc ?_ _)); refine blk_far ?_ NB507_513.out _; (with_reducible repeat (first | refine blk_drewN ?_ _ | refine blk_drew ?_ | refine blk_alloc ?_ _)); refine blk_far ?_ NB507_513.out _; (with_reducible repeat (first | refine blk_drewN ?_ _ | refine blk_drew ?_ | refine blk_alloc ?_ _)); refine blk_far ?_ NB507_513.out _; (with_reducible repeat (first | refine blk_drewN ?_ _ | refine blk_drew ?_ | refine blk_alloc ?_ _)); refine blk_far ?_ NB507_513.out _; (with_reducible repeat (first | refine blk_drewN ?_ _ | refine blk_drew ?_ | refine blk_alloc ?_ _)); exact BK507.out) hb); have n1_ := Aside0.mk (blk_below (g := gb513) (o := .cells #[.int .i64 ((rd_T23 l0_1 x4_3).f0), .int .i64 ((rd_T23 l0_1 x4_3).f1), .int .i64 ((rd_T23 l0_1 x4_3).f2), .int .i64 ((rd_T23 l0_1 x4_3).f3), .int .i64 ((rd_T23 l0_1 x4_3).f4), .int .i64 ((rd_T23 l0_1 x4_3).f5), .int .i64 ((rd_T23 l0_1 x4_3).f6), .int .u8 ((rd_T23 l0_1 x4_3).f7)] 23 (0, 0)) (by (with_reducible repeat (first | refine blk_drewN ?_ _ | refine blk_drew ?_ | refine blk_alloc ?_ _)); refine blk_put (cs := #[.int .i64 ((rd_T23 l0_1 x4_3).f0), .int .i64 ((rd_T23 l0_1 x4_3).f1), .int .i64 ((rd_T23 l0_1 x4_3).f2), .int .i64 ((rd_T23 l0_1 x4_3).f3), .int .i64 ((rd_T23 l0_1 x4_3).f4), .int .i64 ((rd_T23 l0_1 x4_3).f5), .int .i64 ((rd_T23 l0_1 x4_3).f6), .int .u8 0]) ?_ 7 _ rfl; (with_reducible repeat (first | refine blk_drewN ?_ _ | refine blk_drew ?_ | refine blk_alloc ?_ _)); refine blk_put (cs := #[.int .i64 ((rd_T23 l0_1 x4_3).f0), .int .i64 ((rd_T23 l0_1 x4_3).f1), .int .i64 ((rd_T23 l0_1 x4_3).f2), .int .i64 ((rd_T23 l0_1 x4_3).f3), .int .i64 ((rd_T23 l0_1 x4_3).f4), .int .i64 ((rd_T23 l0_1 x4_3).f5), .int .i64 0, .int .u8 0]) ?_ 6 _ rfl; (with_reducible repeat (first | refine blk_drewN ?_ _ | refine blk_drew ?_ | refine blk_alloc ?_ _)); refine blk_put (cs := #[.int .i64 ((rd_T23 l0_1 x4_3).f0), .int .i64 ((rd_T23 l0_1 x4_3).f1), .int .i64 ((rd_T23 l0_1 x4_3).f2), .int .i64 ((rd_T23 l0_1 x4_3).f3), .int .i64 ((rd_T23 l0_1 x4_3).f4), .int .i64 0, .int .i64 0, .int .u8 0]) ?_ 5 _ rfl; (with_reducible repeat (first | refine blk_drewN ?_ _ | refine blk_drew ?_ | refine blk_alloc ?_ _)); refine blk_put (cs := #[.int .i64 ((rd_T23 l0_1 x4_3).f0), .int .i64 ((rd_T23 l0_1 x4_3).f1), .int .i64 ((rd_T23 l0_1 x4_3).f2), .int .i64 ((rd_T23 l0_1 x4_3).f3), .int .i64 0, .int .i64 0, .int .i64 0, .int .u8 0]) ?_ 4 _ rfl; (with_reducible repeat (first | refine blk_drewN ?_ _ | refine blk_drew ?_ | refine blk_alloc ?_ _)); refine blk_put (cs := #[.int .i64 ((rd_T23 l0_1 x4_3).f0), .int .i64 ((rd_T23 l0_1 x4_3).f1), .int .i64 ((rd_T23 l0_1 x4_3).f2), .int .i64 0, .int .i64 0, .int .i64 0, .int .i64 0, .int .u8 0]) ?_ 3 _ rfl; (with_reducible repeat (first | refine blk_drewN ?_ _ | refine blk_drew ?_ | refine blk_alloc ?_ _)); refine blk_put (cs := #[.int .i64 ((rd_T23 l0_1 x4_3).f0), .int .i64 ((rd_T23 l0_1 x4_3).f1), .int .i64 0, .int .i64 0, .int .i64 0, .int .i64 0, .int .i64 0, .int .u8 0]) ?_ 2 _ rfl; (with_reducible repeat (first | refine blk_drewN ?_ _ | refine blk_drew ?_ | refine blk_alloc ?_ _)); refine blk_put (cs := #[.int .i64 ((rd_T23 l0_1 x4_3).f0), .int .i64 0, .int .i64 0, .int .i64 0, .int .i64 0, .int .i64 0, .int .i64 0, .int .u8 0]) ?_ 1 _ rfl; (with_reducible repeat (first | refine blk_drewN ?_ _ | refine blk_drew ?_ | refine blk_alloc ?_ _)); refine blk_put (cs := #[.int .i64 0, .int .i64 0, .int .i64 0, .int .i64 0, .int .i64 0, .int .i64 0, .int .i64 0, .int .u8 0]) ?_ 0 _ rfl; (with_reducible repeat (first | refine blk_drewN ?_ _ | refine blk_drew ?_ | refine blk_alloc ?_ _)); exact BK513.out) hb); have n2_ := Aside0.mk (below_step (by repeat (first | (with_reducible first | exact HB.out | apply below_alloc | apply pw_below_drewN | apply below_drew1 | refine below_set ?_ GE507.out | refine below_set ?_ GE513.out) | exact HB.out)) hb); clear BK507; clear BK513; clear HB; have BK507 := n0_; have BK513 := n1_; have HB := n2_; clear n0_ n1_ n2_; (try clear hb); (try clear hb2); (try clear hk); (try clear hi); have hcz32_0 : w31.cell? ⟨gb507, 0, none⟩ = some (.slice A0_0 l0_0.length c0_0) := (blk_cell BK507.out 0).trans rfl; have hcz32_1 : w31.cell? ⟨gb507, 1, none⟩ = some (.slice (some ad512) l0_1.length c0_1) := (blk_cell BK507.out 1).trans rfl; have hfz32_0 := blk_frozen BK507.out 0; have hfz32_1 := blk_frozen BK507.out 1; have hcz33_0 : w31.cell? ⟨gb513, 0, none⟩ = some (.int .i64 ((rd_T23 l0_1 x4_3).f0)) := (blk_cell BK513.out 0).trans rfl; have hcz33_1 : w31.cell? ⟨gb513, 1, none⟩ = some (.int .i64 ((rd_T23 l0_1 x4_3).f1)) := (blk_cell BK513.out 1).trans rfl; have hcz33_2 : w31.cell? ⟨gb513, 2, none⟩ = some (.int .i64 ((rd_T23 l0_1 x4_3).f2)) := (blk_cell BK513.out 2).trans rfl; have hcz33_3 : w31.cell? ⟨gb513, 3, none⟩ = some (.int .i64 ((rd_T23 l0_1 x4_3).f3)) := (blk_cell BK513.out 3).trans rfl; have hcz33_4 : w31.cell? ⟨gb513, 4, none⟩ = some (.int .i64 ((rd_T23 l0_1 x4_3).f4)) := (blk_cell BK513.out 4).trans rfl; have hcz33_5 : w31.cell? ⟨gb513, 5, none⟩ = some (.int .i64 ((rd_T23 l0_1 x4_3).f5)) := (blk_cell BK513.out 5).trans rfl; have hcz33_6 : w31.cell? ⟨gb513, 6, none⟩ = some (.int .i64 ((rd_T23 l0_1 x4_3).f6)) := (blk_cell BK513.out 6).trans rfl; have hcz33_7 : w31.cell? ⟨gb513, 7, none⟩ = some (.int .u8 ((rd_T23 l0_1 x4_3).f7)) := (blk_cell BK513.out 7).trans rfl; have hfz33_0 := blk_frozen BK513.out 0; have hfz33_1 := blk_frozen BK513.out 1; have hfz33_2 := blk_frozen BK513.out 2; have hfz33_3 := blk_frozen BK513.out 3; have hfz33_4 := blk_frozen BK513.out 4; have hfz33_5 := blk_frozen BK513.out 5; have hfz33_6 := blk_frozen BK513.out 6; have hfz33_7 := blk_frozen BK513.out 7) | (go_at_call 107; (with_reducible refine (letterbagref32_has.calls k3 _ _ l0_0 ((rd_T23 l0_1 x4_3).f1) t515 _ ?side1 ?side2 A27.out).mono ?_); (case side1 => repeat (first | exact (Kd.C_below HR0_0.out HB.out) | (with_reducible refine Kd.C_alloc ?_ _) | (with_reducible refine Kd.C_drewN ?_ _) | (with_reducible refine Kd.C_drew ?_))); (case side2 => exact HC0_0.out); rintro e w' ⟨rfl, ⟨nd, rfl⟩⟩; (try first | exact ⟨rfl, _, World.drewN_drewN _ _ _⟩ | exact ⟨rfl, _, Eq.trans (World.drewN_drewN _ _ _) (congrArg (World.drewN _) (Nat.add_assoc _ _ _))⟩)))
                            repeat (go_quiet (first | (go_at_call 99; (with_reducible refine (letterbagref32_Right.calls ((rd_T23 l0_1 x4_3).f0) ((rd_T23 l0_1 x4_3).f1) ((rd_T23 l0_1 x4_3).f2) ((rd_T23 l0_1 x4_3).f3) ((rd_T23 l0_1 x4_3).f4) ((rd_T23 l0_1 x4_3).f5) ((rd_T23 l0_1 x4_3).f6) ((rd_T23 l0_1 x4_3).f7) true _ A25.out).mono ?_); rintro e w31 ⟨rfl, hb⟩; have n0_ := Aside0.mk (blk_below (g := gb507) (o := .cells #[.slice A0_0 l0_0.length c0_0, .slice (some ad512) l0_1.length c0_1] 29 (0, 0)) (by (with_reducible repeat (first | refine blk_drewN ?_ _ | refine blk_drew ?_ | refine blk_alloc ?_ _)); refine blk_far ?_ NB507_513.out _; (with_reducible repeat (first | refine blk_drewN ?_ _ | refine blk_drew ?_ | refine blk_alloc ?_ _)); refine blk_far ?_ NB507_513.out _; (with_reducible repeat (first | refine blk_drewN ?_ _ | refine blk_drew ?_ | refine blk_alloc ?_ _)); refine blk_far ?_ NB507_513.out _; (with_reducible repeat (first | refine blk_drewN ?_ _ | refine blk_drew ?_ | refine blk_alloc ?_ _)); refine blk_far ?_ NB507_513.out _; (with_reducible repeat (first | refine blk_drewN ?_ _ | refine blk_drew ?_ | refine blk_alloc ?_ _)); refine blk_far ?_ NB507_513.out _; (with_reducible repeat (first | refine blk_drewN ?_ _ | refine blk_drew ?_ | refine blk_alloc ?_ _)); refine blk_far ?_ NB507_513.out _; (with_reducible repeat (first | refine blk_drewN ?_ _ | refine blk_drew ?_ | refine blk_alloc ?_ _)); refine blk_far ?_ NB507_513.out _; (with_reducible repeat (first | refine blk_drewN ?_ _ | refine blk_drew ?_ | refine blk_alloc ?_ _)); refine blk_far ?_ NB507_513.out _; (with_reducible repeat (first | refine blk_drewN ?_ _ | refine blk_drew ?_ | refine blk_alloc ?_ _)); exact BK507.out) hb); have n1_ := Aside0.mk (blk_below (g := gb513) (o := .cells #[.int .i64 ((rd_T23 l0_1 x4_3).f0), .int .i64 ((rd_T23 l0_1 x4_3).f1), .int .i64 ((rd_T23 l0_1 x4_3).f2), .int .i64 ((rd_T23 l0_1 x4_3).f3), .int .i64 ((rd_T23 l0_1 x4_3).f4), .int .i64 ((rd_T23 l0_1 x4_3).f5), .int .i64 ((rd_T23 l0_1 x4_3).f6), .int .u8 ((rd_T23 l0_1 x4_3).f7)] 23 (0, 0)) (by (with_reducible repeat (first | refine blk_drewN ?_ _ | refine blk_drew ?_ | refine blk_alloc ?_ _)); refine blk_put (cs := #[.int .i64 ((rd_T23 l0_1 x4_3).f0), .int .i64 ((rd_T23 l0_1 x4_3).f1), .int .i64 ((rd_T23 l0_1 x4_3).f2), .int .i64 ((rd_T23 l0_1 x4_3).f3), .int .i64 ((rd_T23 l0_1 x4_3).f4), .int .i64 ((rd_T23 l0_1 x4_3).f5), .int .i64 ((rd_T23 l0_1 x4_3).f6), .int .u8 0]) ?_ 7 _ rfl; (with_reducible repeat (first | refine blk_drewN ?_ _ | refine blk_drew ?_ | refine blk_alloc ?_ _)); refine blk_put (cs := #[.int .i64 ((rd_T23 l0_1 x4_3).f0), .int .i64 ((rd_T23 l0_1 x4_3).f1), .int .i64 ((rd_T23 l0_1 x4_3).f2), .int .i64 ((rd_T23 l0_1 x4_3).f3), .int .i64 ((rd_T23 l0_1 x4_3).f4), .int .i64 ((rd_T23 l0_1 x4_3).f5), .int .i64 0, .int .u8 0]) ?_ 6 _ rfl; (with_reducible repeat (first | refine blk_drewN ?_ _ | refine blk_drew ?_ | refine blk_alloc ?_ _)); refine blk_put (cs := #[.int .i64 ((rd_T23 l0_1 x4_3).f0), .int .i64 ((rd_T23 l0_1 x4_3).f1), .int .i64 ((rd_T23 l0_1 x4_3).f2), .int .i64 ((rd_T23 l0_1 x4_3).f3), .int .i64 ((rd_T23 l0_1 x4_3).f4), .int .i64 0, .int .i64 0, .int .u8 0]) ?_ 5 _ rfl; (with_reducible repeat (first | refine blk_drewN ?_ _ | refine blk_drew ?_ | refine blk_alloc ?_ _)); refine blk_put (cs := #[.int .i64 ((rd_T23 l0_1 x4_3).f0), .int .i64 ((rd_T23 l0_1 x4_3).f1), .int .i64 ((rd_T23 l0_1 x4_3).f2), .int .i64 ((rd_T23 l0_1 x4_3).f3), .int .i64 0, .int .i64 0, .int .i64 0, .int .u8 0]) ?_ 4 _ rfl; (with_reducible repeat (first | refine blk_drewN ?_ _ | refine blk_drew ?_ | refine blk_alloc ?_ _)); refine blk_put (cs := #[.int .i64 ((rd_T23 l0_1 x4_3).f0), .int .i64 ((rd_T23 l0_1 x4_3).f1), .int .i64 ((rd_T23 l0_1 x4_3).f2), .int .i64 0, .int .i64 0, .int .i64 0, .int .i64 0, .int .u8 0]) ?_ 3 _ rfl; (with_reducible repeat (first | refine blk_drewN ?_ _ | refine blk_drew ?_ | refine blk_alloc ?_ _)); refine blk_put (cs := #[.int .i64 ((rd_T23 l0_1 x4_3).f0), .int .i64 ((rd_T23 l0_1 x4_3).f1), .int .i64 0, .int .i64 0, .int .i64 0, .int .i64 0, .int .i64 0, .int .u8 0]) ?_ 2 _ rfl; (with_reducible repeat (first | refine blk_drewN ?_ _ | refine blk_drew ?_ | refine blk_alloc ?_ _)); refine blk_put (cs := #[.int .i64 ((rd_T23 l0_1 x4_3).f0), .int .i64 0, .int .i64 0, .int .i64 0, .int .i64 0, .int .i64 0, .int .i64 0, .int .u8 0]) ?_ 1 _ rfl; (with_reducible repeat (first | refine blk_drewN ?_ _ | refine blk_drew ?_ | refine blk_alloc ?_ _)); refine blk_put (cs := #[.int .i64 0, .int .i64 0, .int .i64 0, .int .i64 0, .int .i64 0, .int .i64 0, .int .i64 0, .int .u8 0]) ?_ 0 _ rfl; (with_reducible repeat (first | refine blk_drewN ?_ _ | refine blk_drew ?_ | refine blk_alloc ?_ _)); exact BK513.out) hb); have n2_ := Aside0.mk (below_step (by repeat (first | (with_reducible first | exact HB.out | apply below_alloc | apply pw_below_drewN | apply below_drew1 | refine below_set ?_ GE507.out | refine below_set ?_ GE513.out) | exact HB.out)) hb); clear BK507; clear BK513; clear HB; have BK507 := n0_; have BK513 := n1_; have HB := n2_; clear n0_ n1_ n2_; (try clear hb); (try clear hb2); (try clear hk); (try clear hi); have hcz32_0 : w31.cell? ⟨gb507, 0, none⟩ = some (.slice A0_0 l0_0.length c0_0) := (blk_cell BK507.out 0).trans rfl; have hcz32_1 : w31.cell? ⟨gb507, 1, none⟩ = some (.slice (some ad512) l0_1.length c0_1) := (blk_cell BK507.out 1).trans rfl; have hfz32_0 := blk_frozen BK507.out 0; have hfz32_1 := blk_frozen BK507.out 1; have hcz33_0 : w31.cell? ⟨gb513, 0, none⟩ = some (.int .i64 ((rd_T23 l0_1 x4_3).f0)) := (blk_cell BK513.out 0).trans rfl; have hcz33_1 : w31.cell? ⟨gb513, 1, none⟩ = some (.int .i64 ((rd_T23 l0_1 x4_3).f1)) := (blk_cell BK513.out 1).trans rfl; have hcz33_2 : w31.cell? ⟨gb513, 2, none⟩ = some (.int .i64 ((rd_T23 l0_1 x4_3).f2)) := (blk_cell BK513.out 2).trans rfl; have hcz33_3 : w31.cell? ⟨gb513, 3, none⟩ = some (.int .i64 ((rd_T23 l0_1 x4_3).f3)) := (blk_cell BK513.out 3).trans rfl; have hcz33_4 : w31.cell? ⟨gb513, 4, none⟩ = some (.int .i64 ((rd_T23 l0_1 x4_3).f4)) := (blk_cell BK513.out 4).trans rfl; have hcz33_5 : w31.cell? ⟨gb513, 5, none⟩ = some (.int .i64 ((rd_T23 l0_1 x4_3).f5)) := (blk_cell BK513.out 5).trans rfl; have hcz33_6 : w31.cell? ⟨gb513, 6, none⟩ = some (.int .i64 ((rd_T23 l0_1 x4_3).f6)) := (blk_cell BK513.out 6).trans rfl; have hcz33_7 : w31.cell? ⟨gb513, 7, none⟩ = some (.int .u8 ((rd_T23 l0_1 x4_3).f7)) := (blk_cell BK513.out 7).trans rfl; have hfz33_0 := blk_frozen BK513.out 0; have hfz33_1 := blk_frozen BK513.out 1; have hfz33_2 := blk_frozen BK513.out 2; have hfz33_3 := blk_frozen BK513.out 3; have hfz33_4 := blk_frozen BK513.out 4; have hfz33_5 := blk_frozen BK513.out 5; have hfz33_6 := blk_frozen BK513.out 6; have hfz33_7 := blk_frozen BK513.out 7) | (go_at_call 107; (with_reducible refine (letterbagref32_has.calls k3 _ _ l0_0 ((rd_T23 l0_1 x4_3).f1) t515 _ ?side1 ?side2 A27.out).mono ?_); (case side1 => repeat (first | exact (Kd.C_below HR0_0.out HB.out) | (with_reducible refine Kd.C_alloc ?_ _) | (with_reducible refine Kd.C_drewN ?_ _) | (with_reducible refine Kd.C_drew ?_))); (case side2 => exact HC0_0.out); rintro e w' ⟨rfl, ⟨nd, rfl⟩⟩; (try first | exact ⟨rfl, _, World.drewN_drewN _ _ _⟩ | exact ⟨rfl, _, Eq.trans (World.drewN_drewN _ _ _) (congrArg (World.drewN _) (Nat.add_assoc _ _ _))⟩))); try go_wp2_with (first | (go_at_call 99; (with_reducible refine (letterbagref32_Right.calls ((rd_T23 l0_1 x4_3).f0) ((rd_T23 l0_1 x4_3).f1) ((rd_T23 l0_1 x4_3).f2) ((rd_T23 l0_1 x4_3).f3) ((rd_T23 l0_1 x4_3).f4) ((rd_T23 l0_1 x4_3).f5) ((rd_T23 l0_1 x4_3).f6) ((rd_T23 l0_1 x4_3).f7) true _ A25.out).mono ?_); rintro e w31 ⟨rfl, hb⟩; have n0_ := Aside0.mk (blk_below (g := gb507) (o := .cells #[.slice A0_0 l0_0.length c0_0, .slice (some ad512) l0_1.length c0_1] 29 (0, 0)) (by (with_reducible repeat (first | refine blk_drewN ?_ _ | refine blk_drew ?_ | refine blk_alloc ?_ _)); refine blk_far ?_ NB507_513.out _; (with_reducible repeat (first | refine blk_drewN ?_ _ | refine blk_drew ?_ | refine blk_alloc ?_ _)); refine blk_far ?_ NB507_513.out _; (with_reducible repeat (first | refine blk_drewN ?_ _ | refine blk_drew ?_ | refine blk_alloc ?_ _)); refine blk_far ?_ NB507_513.out _; (with_reducible repeat (first | refine blk_drewN ?_ _ | refine blk_drew ?_ | refine blk_alloc ?_ _)); refine blk_far ?_ NB507_513.out _; (with_reducible repeat (first | refine blk_drewN ?_ _ | refine blk_drew ?_ | refine blk_alloc ?_ _)); refine blk_far ?_ NB507_513.out _; (with_reducible repeat (first | refine blk_drewN ?_ _ | refine blk_drew ?_ | refine blk_alloc ?_ _)); refine blk_far ?_ NB507_513.out _; (with_reducible repeat (first | refine blk_drewN ?_ _ | refine blk_drew ?_ | refine blk_alloc ?_ _)); refine blk_far ?_ NB507_513.out _; (with_reducible repeat (first | refine blk_drewN ?_ _ | refine blk_drew ?_ | refine blk_alloc ?_ _)); refine blk_far ?_ NB507_513.out _; (with_reducible repeat (first | refine blk_drewN ?_ _ | refine blk_drew ?_ | refine blk_alloc ?_ _)); exact BK507.out) hb); have n1_ := Aside0.mk (blk_below (g := gb513) (o := .cells #[.int .i64 ((rd_T23 l0_1 x4_3).f0), .int .i64 ((rd_T23 l0_1 x4_3).f1), .int .i64 ((rd_T23 l0_1 x4_3).f2), .int .i64 ((rd_T23 l0_1 x4_3).f3), .int .i64 ((rd_T23 l0_1 x4_3).f4), .int .i64 ((rd_T23 l0_1 x4_3).f5), .int .i64 ((rd_T23 l0_1 x4_3).f6), .int .u8 ((rd_T23 l0_1 x4_3).f7)] 23 (0, 0)) (by (with_reducible repeat (first | refine blk_drewN ?_ _ | refine blk_drew ?_ | refine blk_alloc ?_ _)); refine blk_put (cs := #[.int .i64 ((rd_T23 l0_1 x4_3).f0), .int .i64 ((rd_T23 l0_1 x4_3).f1), .int .i64 ((rd_T23 l0_1 x4_3).f2), .int .i64 ((rd_T23 l0_1 x4_3).f3), .int .i64 ((rd_T23 l0_1 x4_3).f4), .int .i64 ((rd_T23 l0_1 x4_3).f5), .int .i64 ((rd_T23 l0_1 x4_3).f6), .int .u8 0]) ?_ 7 _ rfl; (with_reducible repeat (first | refine blk_drewN ?_ _ | refine blk_drew ?_ | refine blk_alloc ?_ _)); refine blk_put (cs := #[.int .i64 ((rd_T23 l0_1 x4_3).f0), .int .i64 ((rd_T23 l0_1 x4_3).f1), .int .i64 ((rd_T23 l0_1 x4_3).f2), .int .i64 ((rd_T23 l0_1 x4_3).f3), .int .i64 ((rd_T23 l0_1 x4_3).f4), .int .i64 ((rd_T23 l0_1 x4_3).f5), .int .i64 0, .int .u8 0]) ?_ 6 _ rfl; (with_reducible repeat (first | refine blk_drewN ?_ _ | refine blk_drew ?_ | refine blk_alloc ?_ _)); refine blk_put (cs := #[.int .i64 ((rd_T23 l0_1 x4_3).f0), .int .i64 ((rd_T23 l0_1 x4_3).f1), .int .i64 ((rd_T23 l0_1 x4_3).f2), .int .i64 ((rd_T23 l0_1 x4_3).f3), .int .i64 ((rd_T23 l0_1 x4_3).f4), .int .i64 0, .int .i64 0, .int .u8 0]) ?_ 5 _ rfl; (with_reducible repeat (first | refine blk_drewN ?_ _ | refine blk_drew ?_ | refine blk_alloc ?_ _)); refine blk_put (cs := #[.int .i64 ((rd_T23 l0_1 x4_3).f0), .int .i64 ((rd_T23 l0_1 x4_3).f1), .int .i64 ((rd_T23 l0_1 x4_3).f2), .int .i64 ((rd_T23 l0_1 x4_3).f3), .int .i64 0, .int .i64 0, .int .i64 0, .int .u8 0]) ?_ 4 _ rfl; (with_reducible repeat (first | refine blk_drewN ?_ _ | refine blk_drew ?_ | refine blk_alloc ?_ _)); refine blk_put (cs := #[.int .i64 ((rd_T23 l0_1 x4_3).f0), .int .i64 ((rd_T23 l0_1 x4_3).f1), .int .i64 ((rd_T23 l0_1 x4_3).f2), .int .i64 0, .int .i64 0, .int .i64 0, .int .i64 0, .int .u8 0]) ?_ 3 _ rfl; (with_reducible repeat (first | refine blk_drewN ?_ _ | refine blk_drew ?_ | refine blk_alloc ?_ _)); refine blk_put (cs := #[.int .i64 ((rd_T23 l0_1 x4_3).f0), .int .i64 ((rd_T23 l0_1 x4_3).f1), .int .i64 0, .int .i64 0, .int .i64 0, .int .i64 0, .int .i64 0, .int .u8 0]) ?_ 2 _ rfl; (with_reducible repeat (first | refine blk_drewN ?_ _ | refine blk_drew ?_ | refine blk_alloc ?_ _)); refine blk_put (cs := #[.int .i64 ((rd_T23 l0_1 x4_3).f0), .int .i64 0, .int .i64 0, .int .i64 0, .int .i64 0, .int .i64 0, .int .i64 0, .int .u8 0]) ?_ 1 _ rfl; (with_reducible repeat (first | refine blk_drewN ?_ _ | refine blk_drew ?_ | refine blk_alloc ?_ _)); refine blk_put (cs := #[.int .i64 0, .int .i64 0, .int .i64 0, .int .i64 0, .int .i64 0, .int .i64 0, .int .i64 0, .int .u8 0]) ?_ 0 _ rfl; (with_reducible repeat (first | refine blk_drewN ?_ _ | refine blk_drew ?_ | refine blk_alloc ?_ _)); exact BK513.out) hb); have n2_ := Aside0.mk (below_step (by repeat (first | (with_reducible first | exact HB.out | apply below_alloc | apply pw_below_drewN | apply below_drew1 | refine below_set ?_ GE507.out | refine below_set ?_ GE513.out) | exact HB.out)) hb); clear BK507; clear BK513; clear HB; have BK507 := n0_; have BK513 := n1_; have HB := n2_; clear n0_ n1_ n2_; (try clear hb); (try clear hb2); (try clear hk); (try clear hi); have hcz32_0 : w31.cell? ⟨gb507, 0, none⟩ = some (.slice A0_0 l0_0.length c0_0) := (blk_cell BK507.out 0).trans rfl; have hcz32_1 : w31.cell? ⟨gb507, 1, none⟩ = some (.slice (some ad512) l0_1.length c0_1) := (blk_cell BK507.out 1).trans rfl; have hfz32_0 := blk_frozen BK507.out 0; have hfz32_1 := blk_frozen BK507.out 1; have hcz33_0 : w31.cell? ⟨gb513, 0, none⟩ = some (.int .i64 ((rd_T23 l0_1 x4_3).f0)) := (blk_cell BK513.out 0).trans rfl; have hcz33_1 : w31.cell? ⟨gb513, 1, none⟩ = some (.int .i64 ((rd_T23 l0_1 x4_3).f1)) := (blk_cell BK513.out 1).trans rfl; have hcz33_2 : w31.cell? ⟨gb513, 2, none⟩ = some (.int .i64 ((rd_T23 l0_1 x4_3).f2)) := (blk_cell BK513.out 2).trans rfl; have hcz33_3 : w31.cell? ⟨gb513, 3, none⟩ = some (.int .i64 ((rd_T23 l0_1 x4_3).f3)) := (blk_cell BK513.out 3).trans rfl; have hcz33_4 : w31.cell? ⟨gb513, 4, none⟩ = some (.int .i64 ((rd_T23 l0_1 x4_3).f4)) := (blk_cell BK513.out 4).trans rfl; have hcz33_5 : w31.cell? ⟨gb513, 5, none⟩ = some (.int .i64 ((rd_T23 l0_1 x4_3).f5)) := (blk_cell BK513.out 5).trans rfl; have hcz33_6 : w31.cell? ⟨gb513, 6, none⟩ = some (.int .i64 ((rd_T23 l0_1 x4_3).f6)) := (blk_cell BK513.out 6).trans rfl; have hcz33_7 : w31.cell? ⟨gb513, 7, none⟩ = some (.int .u8 ((rd_T23 l0_1 x4_3).f7)) := (blk_cell BK513.out 7).trans rfl; have hfz33_0 := blk_frozen BK513.out 0; have hfz33_1 := blk_frozen BK513.out 1; have hfz33_2 := blk_frozen BK513.out 2; have hfz33_3 := blk_frozen BK513.out 3; have hfz33_4 := blk_frozen BK513.out 4; have hfz33_5 := blk_frozen BK513.out 5; have hfz33_6 := blk_frozen BK513.out 6; have hfz33_7 := blk_frozen BK513.out 7) | (go_at_call 107; (with_reducible refine (letterbagref32_has.calls k3 _ _ l0_0 ((rd_T23 l0_1 x4_3).f1) t515 _ ?side1 ?side2 A27.out).mono ?_); (case side1 => repeat (first | exact (Kd.C_below HR0_0.out HB.out) | (with_reducible refine Kd.C_alloc ?_ _) | (with_reducible refine Kd.C_drewN ?_ _) | (with_reducible refine Kd.C_drew ?_))); (case side2 => exact HC0_0.out); rintro e w' ⟨rfl, ⟨nd, rfl⟩⟩; (try first | exact ⟨rfl, _, World.drewN_drewN _ _ _⟩ | exact ⟨rfl, _, Eq.trans (World.drewN_drewN _ _ _) (congrArg (World.drewN _) (Nat.add_assoc _ _ _))⟩))))
                            go_meet
                            case rel => exact ⟨_, (true), (by first | rfl | (simp; done) | (simp [*]; done)), H', ⟨by have := HJ1.out; have := HK2.out; have := HK3.out; first | omega | exact Nat.le_refl _⟩, ⟨by (with_reducible repeat (first | refine blk_drewN ?_ _ | refine blk_drew ?_ | refine blk_alloc ?_ _)); exact BK507.out⟩, ⟨by (with_reducible repeat (first | refine blk_drewN ?_ _ | refine blk_drew ?_ | refine blk_alloc ?_ _)); exact BK513.out⟩, ⟨by repeat (first | (with_reducible first | exact HB.out | apply below_alloc | apply pw_below_drewN | apply below_drew1 | refine below_set ?_ GE507.out | refine below_set ?_ GE513.out) | exact HB.out)⟩⟩
                          · rw [if_neg c28] at H
                            have c28b0 : (t515 == 0) = false := beq_eq_false_iff_ne.mpr c28
                            have c28b1 : (t515 != 0) = true := bne_iff_ne.mpr c28
                            (first | rw [c28b0] | (simp only [i64_w, i32_w]; rw [c28b0]) | skip)
                            replace H := Option.bind_eq_some_iff.mp H
                            obtain ⟨t516, A340, H⟩ := H
                            replace H : (letterbagref32_Valid.j3 k3 x4_3 (t516 == 0) l0_0 l0_1 ((rd_T23 l0_1 x4_3).f0) ((rd_T23 l0_1 x4_3).f1) ((rd_T23 l0_1 x4_3).f2) ((rd_T23 l0_1 x4_3).f3) ((rd_T23 l0_1 x4_3).f4) ((rd_T23 l0_1 x4_3).f5) ((rd_T23 l0_1 x4_3).f6) ((rd_T23 l0_1 x4_3).f7)) = some r := H
                            have A34 := Aside0.mk A340
                            clear A340
                            have H' := Aside0.mk H
                            clear H
                            have hnb35 := NB513_507.out
                            have hnc35 := NB507_513.out
                            have hcz36_0 : w22.cell? ⟨gb513, 0, none⟩ = some (.int .i64 0) := (blk_cell BK513.out 0).trans rfl
                            have hcz36_1 : w22.cell? ⟨gb513, 1, none⟩ = some (.int .i64 0) := (blk_cell BK513.out 1).trans rfl
                            have hcz36_2 : w22.cell? ⟨gb513, 2, none⟩ = some (.int .i64 0) := (blk_cell BK513.out 2).trans rfl
                            have hcz36_3 : w22.cell? ⟨gb513, 3, none⟩ = some (.int .i64 0) := (blk_cell BK513.out 3).trans rfl
                            have hcz36_4 : w22.cell? ⟨gb513, 4, none⟩ = some (.int .i64 0) := (blk_cell BK513.out 4).trans rfl
                            have hcz36_5 : w22.cell? ⟨gb513, 5, none⟩ = some (.int .i64 0) := (blk_cell BK513.out 5).trans rfl
                            have hcz36_6 : w22.cell? ⟨gb513, 6, none⟩ = some (.int .i64 0) := (blk_cell BK513.out 6).trans rfl
                            have hcz36_7 : w22.cell? ⟨gb513, 7, none⟩ = some (.int .u8 0) := (blk_cell BK513.out 7).trans rfl
                            have hfz36_0 := blk_frozen BK513.out 0
                            have hfz36_1 := blk_frozen BK513.out 1
                            have hfz36_2 := blk_frozen BK513.out 2
                            have hfz36_3 := blk_frozen BK513.out 3
                            have hfz36_4 := blk_frozen BK513.out 4
                            have hfz36_5 := blk_frozen BK513.out 5
                            have hfz36_6 := blk_frozen BK513.out 6
                            have hfz36_7 := blk_frozen BK513.out 7
                            go_wp2_with (first | (go_at_call 99; (with_reducible refine (letterbagref32_Right.calls ((rd_T23 l0_1 x4_3).f0) ((rd_T23 l0_1 x4_3).f1) ((rd_T23 l0_1 x4_3).f2) ((rd_T23 l0_1 x4_3).f3) ((rd_T23 l0_1 x4_3).f4) ((rd_T23 l0_1 x4_3).f5) ((rd_T23 l0_1 x4_3).f6) ((rd_T23 l0_1 x4_3).f7) true _ A25.out).mono ?_); rintro e w37 ⟨rfl, hb⟩; have n0_ := Aside0.mk (blk_below (g := gb507) (o := .cells #[.slice A0_0 l0_0.length c0_0, .slice (some ad512) l0_1.length c0_1] 29 (0, 0)) (by (with_reducible repeat (first | refine blk_drewN ?_ _ | refine blk_drew ?_ | refine blk_alloc ?_ _)); refine blk_far ?_ NB507_513.out _; (with_reducible repeat (first | refine blk_drewN ?_ _ | refine blk_drew ?_ | refine blk_alloc ?_ _)); refine blk_far ?_ NB507_513.out _; (with_reducible repeat (first | refine blk_drewN ?_ _ | refine blk_drew ?_ | refine blk_alloc ?_ _)); refine blk_far ?_ NB507_513.out _; (with_reducible repeat (first | refine blk_drewN ?_ _ | refine blk_drew ?_ | refine blk_alloc ?_ _)); refine blk_far ?_ NB507_513.out _; (with_reducible repeat (first | refine blk_drewN ?_ _ | refine blk_drew ?_ | refine blk_alloc ?_ _)); refine blk_far ?_ NB507_513.out _; (with_reducible repeat (first | refine blk_drewN ?_ _ | refine blk_drew ?_ | refine blk_alloc ?_ _)); refine blk_far ?_ NB507_513.out _; (with_reducible repeat (first | refine blk_drewN ?_ _ | refine blk_drew ?_ | refine blk_alloc ?_ _)); refine blk_far ?_ NB507_513.out _; (with_reducible repeat (first | refine blk_drewN ?_ _ | refine blk_drew ?_ | refine blk_alloc ?_ _)); refine blk_far ?_ NB507_513.out _; (with_reducible repeat (first | refine blk_drewN ?_ _ | refine blk_drew ?_ | refine blk_alloc ?_ _)); exact BK507.out) hb); have n1_ := Aside0.mk (blk_below (g := gb513) (o := .cells #[.int .i64 ((rd_T23 l0_1 x4_3).f0), .int .i64 ((rd_T23 l0_1 x4_3).f1), .int .i64 ((rd_T23 l0_1 x4_3).f2), .int .i64 ((rd_T23 l0_1 x4_3).f3), .int .i64 ((rd_T23 l0_1 x4_3).f4), .int .i64 ((rd_T23 l0_1 x4_3).f5), .int .i64 ((rd_T23 l0_1 x4_3).f6), .int .u8 ((rd_T23 l0_1 x4_3).f7)] 23 (0, 0)) (by (with_reducible repeat (first | refine blk_drewN ?_ _ | refine blk_drew ?_ | refine blk_alloc ?_ _)); refine blk_put (cs := #[.int .i64 ((rd_T23 l0_1 x4_3).f0), .int .i64 ((rd_T23 l0_1 x4_3).f1), .int .i64 ((rd_T23 l0_1 x4_3).f2), .int .i64 ((rd_T23 l0_1 x4_3).f3), .int .i64 ((rd_T23 l0_1 x4_3).f4), .int .i64 ((rd_T23 l0_1 x4_3).f5), .int .i64 ((rd_T23 l0_1 x4_3).f6), .int .u8 0]) ?_ 7 _ rfl; (with_reducible repeat (first | refine blk_drewN ?_ _ | refine blk_drew ?_ | refine blk_alloc ?_ _)); refine blk_put (cs := #[.int .i64 ((rd_T23 l0_1 x4_3).f0), .int .i64 ((rd_T23 l0_1 x4_3).f1), .int .i64 ((rd_T23 l0_1 x4_3).f2), .int .i64 ((rd_T23 l0_1 x4_3).f3), .int .i64 ((rd_T23 l0_1 x4_3).f4), .int .i64 ((rd_T23 l0_1 x4_3).f5), .int .i64 0, .int .u8 0]) ?_ 6 _ rfl; (with_reducible repeat (first | refine blk_drewN ?_ _ | refine blk_drew ?_ | refine blk_alloc ?_ _)); refine blk_put (cs := #[.int .i64 ((rd_T23 l0_1 x4_3).f0), .int .i64 ((rd_T23 l0_1 x4_3).f1), .int .i64 ((rd_T23 l0_1 x4_3).f2), .int .i64 ((rd_T23 l0_1 x4_3).f3), .int .i64 ((rd_T23 l0_1 x4_3).f4), .int .i64 0, .int .i64 0, .int .u8 0]) ?_ 5 _ rfl; (with_reducible repeat (first | refine blk_drewN ?_ _ | refine blk_drew ?_ | refine blk_alloc ?_ _)); refine blk_put (cs := #[.int .i64 ((rd_T23 l0_1 x4_3).f0), .int .i64 ((rd_T23 l0_1 x4_3).f1), .int .i64 ((rd_T23 l0_1 x4_3).f2), .int .i64 ((rd_T23 l0_1 x4_3).f3), .int .i64 0, .int .i64 0, .int .i64 0, .int .u8 0]) ?_ 4 _ rfl; (with_reducible repeat (first | refine blk_drewN ?_ _ | refine blk_drew ?_ | refine blk_alloc ?_ _)); refine blk_put (cs := #[.int .i64 ((rd_T23 l0_1 x4_3).f0), .int .i64 ((rd_T23 l0_1 x4_3).f1), .int .i64 ((rd_T23 l0_1 x4_3).f2), .int .i64 0, .int .i64 0, .int .i64 0, .int .i64 0, .int .u8 0]) ?_ 3 _ rfl; (with_reducible repeat (first | refine blk_drewN ?_ _ | refine blk_drew ?_ | refine blk_alloc ?_ _)); refine blk_put (cs := #[.int .i64 ((rd_T23 l0_1 x4_3).f0), .int .i64 ((rd_T23 l0_1 x4_3).f1), .int .i64 0, .int .i64 0, .int .i64 0, .int .i64 0, .int .i64 0, .int .u8 0]) ?_ 2 _ rfl; (with_reducible repeat (first | refine blk_drewN ?_ _ | refine blk_drew ?_ | refine blk_alloc ?_ _)); refine blk_put (cs := #[.int .i64 ((rd_T23 l0_1 x4_3).f0), .int .i64 0, .int .i64 0, .int .i64 0, .int .i64 0, .int .i64 0, .int .i64 0, .int .u8 0]) ?_ 1 _ rfl; (with_reducible repeat (first | refine blk_drewN ?_ _ | refine blk_drew ?_ | refine blk_alloc ?_ _)); refine blk_put (cs := #[.int .i64 0, .int .i64 0, .int .i64 0, .int .i64 0, .int .i64 0, .int .i64 0, .int .i64 0, .int .u8 0]) ?_ 0 _ rfl; (with_reducible repeat (first | refine blk_drewN ?_ _ | refine blk_drew ?_ | refine blk_alloc ?_ _)); exact BK513.out) hb); have n2_ := Aside0.mk (below_step (by repeat (first | (with_reducible first | exact HB.out | apply below_alloc | apply pw_below_drewN | apply below_drew1 | refine below_set ?_ GE507.out | refine below_set ?_ GE513.out) | exact HB.out)) hb); clear BK507; clear BK513; clear HB; have BK507 := n0_; have BK513 := n1_; have HB := n2_; clear n0_ n1_ n2_; (try clear hb); (try clear hb2); (try clear hk); (try clear hi); have hcz38_0 : w37.cell? ⟨gb507, 0, none⟩ = some (.slice A0_0 l0_0.length c0_0) := (blk_cell BK507.out 0).trans rfl; have hcz38_1 : w37.cell? ⟨gb507, 1, none⟩ = some (.slice (some ad512) l0_1.length c0_1) := (blk_cell BK507.out 1).trans rfl; have hfz38_0 := blk_frozen BK507.out 0; have hfz38_1 := blk_frozen BK507.out 1; have hcz39_0 : w37.cell? ⟨gb513, 0, none⟩ = some (.int .i64 ((rd_T23 l0_1 x4_3).f0)) := (blk_cell BK513.out 0).trans rfl; have hcz39_1 : w37.cell? ⟨gb513, 1, none⟩ = some (.int .i64 ((rd_T23 l0_1 x4_3).f1)) := (blk_cell BK513.out 1).trans rfl; have hcz39_2 : w37.cell? ⟨gb513, 2, none⟩ = some (.int .i64 ((rd_T23 l0_1 x4_3).f2)) := (blk_cell BK513.out 2).trans rfl; have hcz39_3 : w37.cell? ⟨gb513, 3, none⟩ = some (.int .i64 ((rd_T23 l0_1 x4_3).f3)) := (blk_cell BK513.out 3).trans rfl; have hcz39_4 : w37.cell? ⟨gb513, 4, none⟩ = some (.int .i64 ((rd_T23 l0_1 x4_3).f4)) := (blk_cell BK513.out 4).trans rfl; have hcz39_5 : w37.cell? ⟨gb513, 5, none⟩ = some (.int .i64 ((rd_T23 l0_1 x4_3).f5)) := (blk_cell BK513.out 5).trans rfl; have hcz39_6 : w37.cell? ⟨gb513, 6, none⟩ = some (.int .i64 ((rd_T23 l0_1 x4_3).f6)) := (blk_cell BK513.out 6).trans rfl; have hcz39_7 : w37.cell? ⟨gb513, 7, none⟩ = some (.int .u8 ((rd_T23 l0_1 x4_3).f7)) := (blk_cell BK513.out 7).trans rfl; have hfz39_0 := blk_frozen BK513.out 0; have hfz39_1 := blk_frozen BK513.out 1; have hfz39_2 := blk_frozen BK513.out 2; have hfz39_3 := blk_frozen BK513.out 3; have hfz39_4 := blk_frozen BK513.out 4; have hfz39_5 := blk_frozen BK513.out 5; have hfz39_6 := blk_frozen BK513.out 6; have hfz39_7 := blk_frozen BK513.out 7) | (go_at_call 107; (with_reducible refine (letterbagref32_has.calls k3 _ _ l0_0 ((rd_T23 l0_1 x4_3).f1) t515 _ ?side1 ?side2 A27.out).mono ?_); (case side1 => repeat (first | exact (Kd.C_below HR0_0.out HB.out) | (with_reducible refine Kd.C_alloc ?_ _) | (with_reducible refine Kd.C_drewN ?_ _) | (with_reducible refine Kd.C_drew ?_))); (case side2 => exact HC0_0.out); rintro e w' ⟨rfl, ⟨nd, rfl⟩⟩; (try first | exact ⟨rfl, _, World.drewN_drewN _ _ _⟩ | exact ⟨rfl, _, Eq.trans (World.drewN_drewN _ _ _) (congrArg (World.drewN _) (Nat.add_assoc _ _ _))⟩)) | (go_at_call 107; (with_reducible refine (letterbagref32_has.calls k3 _ _ l0_0 ((rd_T23 l0_1 x4_3).f2) t516 _ ?side1 ?side2 A34.out).mono ?_); (case side1 => repeat (first | exact (Kd.C_below HR0_0.out (by repeat (first | (with_reducible first | exact HB.out | apply below_alloc | apply pw_below_drewN | apply below_drew1 | refine below_set ?_ GE507.out | refine below_set ?_ GE513.out) | exact HB.out))) | (with_reducible refine Kd.C_alloc ?_ _) | (with_reducible refine Kd.C_drewN ?_ _) | (with_reducible refine Kd.C_drew ?_))); (case side2 => exact HC0_0.out); rintro e w' ⟨rfl, ⟨nd, rfl⟩⟩; (try first | exact ⟨rfl, _, World.drewN_drewN _ _ _⟩ | exact ⟨rfl, _, Eq.trans (World.drewN_drewN _ _ _) (congrArg (World.drewN _) (Nat.add_assoc _ _ _))⟩)))
                            repeat (go_quiet (first | (go_at_call 99; (with_reducible refine (letterbagref32_Right.calls ((rd_T23 l0_1 x4_3).f0) ((rd_T23 l0_1 x4_3).f1) ((rd_T23 l0_1 x4_3).f2) ((rd_T23 l0_1 x4_3).f3) ((rd_T23 l0_1 x4_3).f4) ((rd_T23 l0_1 x4_3).f5) ((rd_T23 l0_1 x4_3).f6) ((rd_T23 l0_1 x4_3).f7) true _ A25.out).mono ?_); rintro e w37 ⟨rfl, hb⟩; have n0_ := Aside0.mk (blk_below (g := gb507) (o := .cells #[.slice A0_0 l0_0.length c0_0, .slice (some ad512) l0_1.length c0_1] 29 (0, 0)) (by (with_reducible repeat (first | refine blk_drewN ?_ _ | refine blk_drew ?_ | refine blk_alloc ?_ _)); refine blk_far ?_ NB507_513.out _; (with_reducible repeat (first | refine blk_drewN ?_ _ | refine blk_drew ?_ | refine blk_alloc ?_ _)); refine blk_far ?_ NB507_513.out _; (with_reducible repeat (first | refine blk_drewN ?_ _ | refine blk_drew ?_ | refine blk_alloc ?_ _)); refine blk_far ?_ NB507_513.out _; (with_reducible repeat (first | refine blk_drewN ?_ _ | refine blk_drew ?_ | refine blk_alloc ?_ _)); refine blk_far ?_ NB507_513.out _; (with_reducible repeat (first | refine blk_drewN ?_ _ | refine blk_drew ?_ | refine blk_alloc ?_ _)); refine blk_far ?_ NB507_513.out _; (with_reducible repeat (first | refine blk_drewN ?_ _ | refine blk_drew ?_ | refine blk_alloc ?_ _)); refine blk_far ?_ NB507_513.out _; (with_reducible repeat (first | refine blk_drewN ?_ _ | refine blk_drew ?_ | refine blk_alloc ?_ _)); refine blk_far ?_ NB507_513.out _; (with_reducible repeat (first | refine blk_drewN ?_ _ | refine blk_drew ?_ | refine blk_alloc ?_ _)); refine blk_far ?_ NB507_513.out _; (with_reducible repeat (first | refine blk_drewN ?_ _ | refine blk_drew ?_ | refine blk_alloc ?_ _)); exact BK507.out) hb); have n1_ := Aside0.mk (blk_below (g := gb513) (o := .cells #[.int .i64 ((rd_T23 l0_1 x4_3).f0), .int .i64 ((rd_T23 l0_1 x4_3).f1), .int .i64 ((rd_T23 l0_1 x4_3).f2), .int .i64 ((rd_T23 l0_1 x4_3).f3), .int .i64 ((rd_T23 l0_1 x4_3).f4), .int .i64 ((rd_T23 l0_1 x4_3).f5), .int .i64 ((rd_T23 l0_1 x4_3).f6), .int .u8 ((rd_T23 l0_1 x4_3).f7)] 23 (0, 0)) (by (with_reducible repeat (first | refine blk_drewN ?_ _ | refine blk_drew ?_ | refine blk_alloc ?_ _)); refine blk_put (cs := #[.int .i64 ((rd_T23 l0_1 x4_3).f0), .int .i64 ((rd_T23 l0_1 x4_3).f1), .int .i64 ((rd_T23 l0_1 x4_3).f2), .int .i64 ((rd_T23 l0_1 x4_3).f3), .int .i64 ((rd_T23 l0_1 x4_3).f4), .int .i64 ((rd_T23 l0_1 x4_3).f5), .int .i64 ((rd_T23 l0_1 x4_3).f6), .int .u8 0]) ?_ 7 _ rfl; (with_reducible repeat (first | refine blk_drewN ?_ _ | refine blk_drew ?_ | refine blk_alloc ?_ _)); refine blk_put (cs := #[.int .i64 ((rd_T23 l0_1 x4_3).f0), .int .i64 ((rd_T23 l0_1 x4_3).f1), .int .i64 ((rd_T23 l0_1 x4_3).f2), .int .i64 ((rd_T23 l0_1 x4_3).f3), .int .i64 ((rd_T23 l0_1 x4_3).f4), .int .i64 ((rd_T23 l0_1 x4_3).f5), .int .i64 0, .int .u8 0]) ?_ 6 _ rfl; (with_reducible repeat (first | refine blk_drewN ?_ _ | refine blk_drew ?_ | refine blk_alloc ?_ _)); refine blk_put (cs := #[.int .i64 ((rd_T23 l0_1 x4_3).f0), .int .i64 ((rd_T23 l0_1 x4_3).f1), .int .i64 ((rd_T23 l0_1 x4_3).f2), .int .i64 ((rd_T23 l0_1 x4_3).f3), .int .i64 ((rd_T23 l0_1 x4_3).f4), .int .i64 0, .int .i64 0, .int .u8 0]) ?_ 5 _ rfl; (with_reducible repeat (first | refine blk_drewN ?_ _ | refine blk_drew ?_ | refine blk_alloc ?_ _)); refine blk_put (cs := #[.int .i64 ((rd_T23 l0_1 x4_3).f0), .int .i64 ((rd_T23 l0_1 x4_3).f1), .int .i64 ((rd_T23 l0_1 x4_3).f2), .int .i64 ((rd_T23 l0_1 x4_3).f3), .int .i64 0, .int .i64 0, .int .i64 0, .int .u8 0]) ?_ 4 _ rfl; (with_reducible repeat (first | refine blk_drewN ?_ _ | refine blk_drew ?_ | refine blk_alloc ?_ _)); refine blk_put (cs := #[.int .i64 ((rd_T23 l0_1 x4_3).f0), .int .i64 ((rd_T23 l0_1 x4_3).f1), .int .i64 ((rd_T23 l0_1 x4_3).f2), .int .i64 0, .int .i64 0, .int .i64 0, .int .i64 0, .int .u8 0]) ?_ 3 _ rfl; (with_reducible repeat (first | refine blk_drewN ?_ _ | refine blk_drew ?_ | refine blk_alloc ?_ _)); refine blk_put (cs := #[.int .i64 ((rd_T23 l0_1 x4_3).f0), .int .i64 ((rd_T23 l0_1 x4_3).f1), .int .i64 0, .int .i64 0, .int .i64 0, .int .i64 0, .int .i64 0, .int .u8 0]) ?_ 2 _ rfl; (with_reducible repeat (first | refine blk_drewN ?_ _ | refine blk_drew ?_ | refine blk_alloc ?_ _)); refine blk_put (cs := #[.int .i64 ((rd_T23 l0_1 x4_3).f0), .int .i64 0, .int .i64 0, .int .i64 0, .int .i64 0, .int .i64 0, .int .i64 0, .int .u8 0]) ?_ 1 _ rfl; (with_reducible repeat (first | refine blk_drewN ?_ _ | refine blk_drew ?_ | refine blk_alloc ?_ _)); refine blk_put (cs := #[.int .i64 0, .int .i64 0, .int .i64 0, .int .i64 0, .int .i64 0, .int .i64 0, .int .i64 0, .int .u8 0]) ?_ 0 _ rfl; (with_reducible repeat (first | refine blk_drewN ?_ _ | refine blk_drew ?_ | refine blk_alloc ?_ _)); exact BK513.out) hb); have n2_ := Aside0.mk (below_step (by repeat (first | (with_reducible first | exact HB.out | apply below_alloc | apply pw_below_drewN | apply below_drew1 | refine below_set ?_ GE507.out | refine below_set ?_ GE513.out) | exact HB.out)) hb); clear BK507; clear BK513; clear HB; have BK507 := n0_; have BK513 := n1_; have HB := n2_; clear n0_ n1_ n2_; (try clear hb); (try clear hb2); (try clear hk); (try clear hi); have hcz38_0 : w37.cell? ⟨gb507, 0, none⟩ = some (.slice A0_0 l0_0.length c0_0) := (blk_cell BK507.out 0).trans rfl; have hcz38_1 : w37.cell? ⟨gb507, 1, none⟩ = some (.slice (some ad512) l0_1.length c0_1) := (blk_cell BK507.out 1).trans rfl; have hfz38_0 := blk_frozen BK507.out 0; have hfz38_1 := blk_frozen BK507.out 1; have hcz39_0 : w37.cell? ⟨gb513, 0, none⟩ = some (.int .i64 ((rd_T23 l0_1 x4_3).f0)) := (blk_cell BK513.out 0).trans rfl; have hcz39_1 : w37.cell? ⟨gb513, 1, none⟩ = some (.int .i64 ((rd_T23 l0_1 x4_3).f1)) := (blk_cell BK513.out 1).trans rfl; have hcz39_2 : w37.cell? ⟨gb513, 2, none⟩ = some (.int .i64 ((rd_T23 l0_1 x4_3).f2)) := (blk_cell BK513.out 2).trans rfl; have hcz39_3 : w37.cell? ⟨gb513, 3, none⟩ = some (.int .i64 ((rd_T23 l0_1 x4_3).f3)) := (blk_cell BK513.out 3).trans rfl; have hcz39_4 : w37.cell? ⟨gb513, 4, none⟩ = some (.int .i64 ((rd_T23 l0_1 x4_3).f4)) := (blk_cell BK513.out 4).trans rfl; have hcz39_5 : w37.cell? ⟨gb513, 5, none⟩ = some (.int .i64 ((rd_T23 l0_1 x4_3).f5)) := (blk_cell BK513.out 5).trans rfl; have hcz39_6 : w37.cell? ⟨gb513, 6, none⟩ = some (.int .i64 ((rd_T23 l0_1 x4_3).f6)) := (blk_cell BK513.out 6).trans rfl; have hcz39_7 : w37.cell? ⟨gb513, 7, none⟩ = some (.int .u8 ((rd_T23 l0_1 x4_3).f7)) := (blk_cell BK513.out 7).trans rfl; have hfz39_0 := blk_frozen BK513.out 0; have hfz39_1 := blk_frozen BK513.out 1; have hfz39_2 := blk_frozen BK513.out 2; have hfz39_3 := blk_frozen BK513.out 3; have hfz39_4 := blk_frozen BK513.out 4; have hfz39_5 := blk_frozen BK513.out 5; have hfz39_6 := blk_frozen BK513.out 6; have hfz39_7 := blk_frozen BK513.out 7) | (go_at_call 107; (with_reducible refine (letterbagref32_has.calls k3 _ _ l0_0 ((rd_T23 l0_1 x4_3).f1) t515 _ ?side1 ?side2 A27.out).mono ?_); (case side1 => repeat (first | exact (Kd.C_below HR0_0.out HB.out) | (with_reducible refine Kd.C_alloc ?_ _) | (with_reducible refine Kd.C_drewN ?_ _) | (with_reducible refine Kd.C_drew ?_))); (case side2 => exact HC0_0.out); rintro e w' ⟨rfl, ⟨nd, rfl⟩⟩; (try first | exact ⟨rfl, _, World.drewN_drewN _ _ _⟩ | exact ⟨rfl, _, Eq.trans (World.drewN_drewN _ _ _) (congrArg (World.drewN _) (Nat.add_assoc _ _ _))⟩)) | (go_at_call 107; (with_reducible refine (letterbagref32_has.calls k3 _ _ l0_0 ((rd_T23 l0_1 x4_3).f2) t516 _ ?side1 ?side2 A34.out).mono ?_); (case side1 => repeat (first | exact (Kd.C_below HR0_0.out (by repeat (first | (with_reducible first | exact HB.out | apply below_alloc | apply pw_below_drewN | apply below_drew1 | refine below_set ?_ GE507.out | refine below_set ?_ GE513.out) | exact HB.out))) | (with_reducible refine Kd.C_alloc ?_ _) | (with_reducible refine Kd.C_drewN ?_ _) | (with_reducible refine Kd.C_drew ?_))); (case side2 => exact HC0_0.out); rintro e w' ⟨rfl, ⟨nd, rfl⟩⟩; (try first | exact ⟨rfl, _, World.drewN_drewN _ _ _⟩ | exact ⟨rfl, _, Eq.trans (World.drewN_drewN _ _ _) (congrArg (World.drewN _) (Nat.add_assoc _ _ _))⟩))); try go_wp2_with (first | (go_at_call 99; (with_reducible refine (letterbagref32_Right.calls ((rd_T23 l0_1 x4_3).f0) ((rd_T23 l0_1 x4_3).f1) ((rd_T23 l0_1 x4_3).f2) ((rd_T23 l0_1 x4_3).f3) ((rd_T23 l0_1 x4_3).f4) ((rd_T23 l0_1 x4_3).f5) ((rd_T23 l0_1 x4_3).f6) ((rd_T23 l0_1 x4_3).f7) true _ A25.out).mono ?_); rintro e w37 ⟨rfl, hb⟩; have n0_ := Aside0.mk (blk_below (g := gb507) (o := .cells #[.slice A0_0 l0_0.length c0_0, .slice (some ad512) l0_1.length c0_1] 29 (0, 0)) (by (with_reducible repeat (first | refine blk_drewN ?_ _ | refine blk_drew ?_ | refine blk_alloc ?_ _)); refine blk_far ?_ NB507_513.out _; (with_reducible repeat (first | refine blk_drewN ?_ _ | refine blk_drew ?_ | refine blk_alloc ?_ _)); refine blk_far ?_ NB507_513.out _; (with_reducible repeat (first | refine blk_drewN ?_ _ | refine blk_drew ?_ | refine blk_alloc ?_ _)); refine blk_far ?_ NB507_513.out _; (with_reducible repeat (first | refine blk_drewN ?_ _ | refine blk_drew ?_ | refine blk_alloc ?_ _)); refine blk_far ?_ NB507_513.out _; (with_reducible repeat (first | refine blk_drewN ?_ _ | refine blk_drew ?_ | refine blk_alloc ?_ _)); refine blk_far ?_ NB507_513.out _; (with_reducible repeat (first | refine blk_drewN ?_ _ | refine blk_drew ?_ | refine blk_alloc ?_ _)); refine blk_far ?_ NB507_513.out _; (with_reducible repeat (first | refine blk_drewN ?_ _ | refine blk_drew ?_ | refine blk_alloc ?_ _)); refine blk_far ?_ NB507_513.out _; (with_reducible repeat (first | refine blk_drewN ?_ _ | refine blk_drew ?_ | refine blk_alloc ?_ _)); refine blk_far ?_ NB507_513.out _; (with_reducible repeat (first | refine blk_drewN ?_ _ | refine blk_drew ?_ | refine blk_alloc ?_ _)); exact BK507.out) hb); have n1_ := Aside0.mk (blk_below (g := gb513) (o := .cells #[.int .i64 ((rd_T23 l0_1 x4_3).f0), .int .i64 ((rd_T23 l0_1 x4_3).f1), .int .i64 ((rd_T23 l0_1 x4_3).f2), .int .i64 ((rd_T23 l0_1 x4_3).f3), .int .i64 ((rd_T23 l0_1 x4_3).f4), .int .i64 ((rd_T23 l0_1 x4_3).f5), .int .i64 ((rd_T23 l0_1 x4_3).f6), .int .u8 ((rd_T23 l0_1 x4_3).f7)] 23 (0, 0)) (by (with_reducible repeat (first | refine blk_drewN ?_ _ | refine blk_drew ?_ | refine blk_alloc ?_ _)); refine blk_put (cs := #[.int .i64 ((rd_T23 l0_1 x4_3).f0), .int .i64 ((rd_T23 l0_1 x4_3).f1), .int .i64 ((rd_T23 l0_1 x4_3).f2), .int .i64 ((rd_T23 l0_1 x4_3).f3), .int .i64 ((rd_T23 l0_1 x4_3).f4), .int .i64 ((rd_T23 l0_1 x4_3).f5), .int .i64 ((rd_T23 l0_1 x4_3).f6), .int .u8 0]) ?_ 7 _ rfl; (with_reducible repeat (first | refine blk_drewN ?_ _ | refine blk_drew ?_ | refine blk_alloc ?_ _)); refine blk_put (cs := #[.int .i64 ((rd_T23 l0_1 x4_3).f0), .int .i64 ((rd_T23 l0_1 x4_3).f1), .int .i64 ((rd_T23 l0_1 x4_3).f2), .int .i64 ((rd_T23 l0_1 x4_3).f3), .int .i64 ((rd_T23 l0_1 x4_3).f4), .int .i64 ((rd_T23 l0_1 x4_3).f5), .int .i64 0, .int .u8 0]) ?_ 6 _ rfl; (with_reducible repeat (first | refine blk_drewN ?_ _ | refine blk_drew ?_ | refine blk_alloc ?_ _)); refine blk_put (cs := #[.int .i64 ((rd_T23 l0_1 x4_3).f0), .int .i64 ((rd_T23 l0_1 x4_3).f1), .int .i64 ((rd_T23 l0_1 x4_3).f2), .int .i64 ((rd_T23 l0_1 x4_3).f3), .int .i64 ((rd_T23 l0_1 x4_3).f4), .int .i64 0, .int .i64 0, .int .u8 0]) ?_ 5 _ rfl; (with_reducible repeat (first | refine blk_drewN ?_ _ | refine blk_drew ?_ | refine blk_alloc ?_ _)); refine blk_put (cs := #[.int .i64 ((rd_T23 l0_1 x4_3).f0), .int .i64 ((rd_T23 l0_1 x4_3).f1), .int .i64 ((rd_T23 l0_1 x4_3).f2), .int .i64 ((rd_T23 l0_1 x4_3).f3), .int .i64 0, .int .i64 0, .int .i64 0, .int .u8 0]) ?_ 4 _ rfl; (with_reducible repeat (first | refine blk_drewN ?_ _ | refine blk_drew ?_ | refine blk_alloc ?_ _)); refine blk_put (cs := #[.int .i64 ((rd_T23 l0_1 x4_3).f0), .int .i64 ((rd_T23 l0_1 x4_3).f1), .int .i64 ((rd_T23 l0_1 x4_3).f2), .int .i64 0, .int .i64 0, .int .i64 0, .int .i64 0, .int .u8 0]) ?_ 3 _ rfl; (with_reducible repeat (first | refine blk_drewN ?_ _ | refine blk_drew ?_ | refine blk_alloc ?_ _)); refine blk_put (cs := #[.int .i64 ((rd_T23 l0_1 x4_3).f0), .int .i64 ((rd_T23 l0_1 x4_3).f1), .int .i64 0, .int .i64 0, .int .i64 0, .int .i64 0, .int .i64 0, .int .u8 0]) ?_ 2 _ rfl; (with_reducible repeat (first | refine blk_drewN ?_ _ | refine blk_drew ?_ | refine blk_alloc ?_ _)); refine blk_put (cs := #[.int .i64 ((rd_T23 l0_1 x4_3).f0), .int .i64 0, .int .i64 0, .int .i64 0, .int .i64 0, .int .i64 0, .int .i64 0, .int .u8 0]) ?_ 1 _ rfl; (with_reducible repeat (first | refine blk_drewN ?_ _ | refine blk_drew ?_ | refine blk_alloc ?_ _)); refine blk_put (cs := #[.int .i64 0, .int .i64 0, .int .i64 0, .int .i64 0, .int .i64 0, .int .i64 0, .int .i64 0, .int .u8 0]) ?_ 0 _ rfl; (with_reducible repeat (first | refine blk_drewN ?_ _ | refine blk_drew ?_ | refine blk_alloc ?_ _)); exact BK513.out) hb); have n2_ := Aside0.mk (below_step (by repeat (first | (with_reducible first | exact HB.out | apply below_alloc | apply pw_below_drewN | apply below_drew1 | refine below_set ?_ GE507.out | refine below_set ?_ GE513.out) | exact HB.out)) hb); clear BK507; clear BK513; clear HB; have BK507 := n0_; have BK513 := n1_; have HB := n2_; clear n0_ n1_ n2_; (try clear hb); (try clear hb2); (try clear hk); (try clear hi); have hcz38_0 : w37.cell? ⟨gb507, 0, none⟩ = some (.slice A0_0 l0_0.length c0_0) := (blk_cell BK507.out 0).trans rfl; have hcz38_1 : w37.cell? ⟨gb507, 1, none⟩ = some (.slice (some ad512) l0_1.length c0_1) := (blk_cell BK507.out 1).trans rfl; have hfz38_0 := blk_frozen BK507.out 0; have hfz38_1 := blk_frozen BK507.out 1; have hcz39_0 : w37.cell? ⟨gb513, 0, none⟩ = some (.int .i64 ((rd_T23 l0_1 x4_3).f0)) := (blk_cell BK513.out 0).trans rfl; have hcz39_1 : w37.cell? ⟨gb513, 1, none⟩ = some (.int .i64 ((rd_T23 l0_1 x4_3).f1)) := (blk_cell BK513.out 1).trans rfl; have hcz39_2 : w37.cell? ⟨gb513, 2, none⟩ = some (.int .i64 ((rd_T23 l0_1 x4_3).f2)) := (blk_cell BK513.out 2).trans rfl; have hcz39_3 : w37.cell? ⟨gb513, 3, none⟩ = some (.int .i64 ((rd_T23 l0_1 x4_3).f3)) := (blk_cell BK513.out 3).trans rfl; have hcz39_4 : w37.cell? ⟨gb513, 4, none⟩ = some (.int .i64 ((rd_T23 l0_1 x4_3).f4)) := (blk_cell BK513.out 4).trans rfl; have hcz39_5 : w37.cell? ⟨gb513, 5, none⟩ = some (.int .i64 ((rd_T23 l0_1 x4_3).f5)) := (blk_cell BK513.out 5).trans rfl; have hcz39_6 : w37.cell? ⟨gb513, 6, none⟩ = some (.int .i64 ((rd_T23 l0_1 x4_3).f6)) := (blk_cell BK513.out 6).trans rfl; have hcz39_7 : w37.cell? ⟨gb513, 7, none⟩ = some (.int .u8 ((rd_T23 l0_1 x4_3).f7)) := (blk_cell BK513.out 7).trans rfl; have hfz39_0 := blk_frozen BK513.out 0; have hfz39_1 := blk_frozen BK513.out 1; have hfz39_2 := blk_frozen BK513.out 2; have hfz39_3 := blk_frozen BK513.out 3; have hfz39_4 := blk_frozen BK513.out 4; have hfz39_5 := blk_frozen BK513.out 5; have hfz39_6 := blk_frozen BK513.out 6; have hfz39_7 := blk_frozen BK513.out 7) | (go_at_call 107; (with_reducible refine (letterbagref32_has.calls k3 _ _ l0_0 ((rd_T23 l0_1 x4_3).f1) t515 _ ?side1 ?side2 A27.out).mono ?_); (case side1 => repeat (first | exact (Kd.C_below HR0_0.out HB.out) | (with_reducible refine Kd.C_alloc ?_ _) | (with_reducible refine Kd.C_drewN ?_ _) | (with_reducible refine Kd.C_drew ?_))); (case side2 => exact HC0_0.out); rintro e w' ⟨rfl, ⟨nd, rfl⟩⟩; (try first | exact ⟨rfl, _, World.drewN_drewN _ _ _⟩ | exact ⟨rfl, _, Eq.trans (World.drewN_drewN _ _ _) (congrArg (World.drewN _) (Nat.add_assoc _ _ _))⟩)) | (go_at_call 107; (with_reducible refine (letterbagref32_has.calls k3 _ _ l0_0 ((rd_T23 l0_1 x4_3).f2) t516 _ ?side1 ?side2 A34.out).mono ?_); (case side1 => repeat (first | exact (Kd.C_below HR0_0.out (by repeat (first | (with_reducible first | exact HB.out | apply below_alloc | apply pw_below_drewN | apply below_drew1 | refine below_set ?_ GE507.out | refine below_set ?_ GE513.out) | exact HB.out))) | (with_reducible refine Kd.C_alloc ?_ _) | (with_reducible refine Kd.C_drewN ?_ _) | (with_reducible refine Kd.C_drew ?_))); (case side2 => exact HC0_0.out); rintro e w' ⟨rfl, ⟨nd, rfl⟩⟩; (try first | exact ⟨rfl, _, World.drewN_drewN _ _ _⟩ | exact ⟨rfl, _, Eq.trans (World.drewN_drewN _ _ _) (congrArg (World.drewN _) (Nat.add_assoc _ _ _))⟩))))
                            go_meet
                            case rel => exact ⟨_, ((t516 == 0)), (by first | rfl | (simp; done) | (simp [*]; done)), H', ⟨by have := HJ1.out; have := HK2.out; have := HK3.out; first | omega | exact Nat.le_refl _⟩, ⟨by (with_reducible repeat (first | refine blk_drewN ?_ _ | refine blk_drew ?_ | refine blk_alloc ?_ _)); exact BK507.out⟩, ⟨by (with_reducible repeat (first | refine blk_drewN ?_ _ | refine blk_drew ?_ | refine blk_alloc ?_ _)); exact BK513.out⟩, ⟨by repeat (first | (with_reducible first | exact HB.out | apply below_alloc | apply pw_below_drewN | apply below_drew1 | refine below_set ?_ GE507.out | refine below_set ?_ GE513.out) | exact HB.out)⟩⟩
                        · replace c26 := Bool.eq_false_iff.mpr c26
                          subst c26
                          have H1 : (letterbagref32_Valid.j3 k3 x4_3 true l0_0 l0_1 ((rd_T23 l0_1 x4_3).f0) ((rd_T23 l0_1 x4_3).f1) ((rd_T23 l0_1 x4_3).f2) ((rd_T23 l0_1 x4_3).f3) ((rd_T23 l0_1 x4_3).f4) ((rd_T23 l0_1 x4_3).f5) ((rd_T23 l0_1 x4_3).f6) ((rd_T23 l0_1 x4_3).f7)) = some r := by rw [if_neg (show ¬ (false = true) by decide)] at H; exact H
                          clear H
                          have H := H1
                          clear H1
                          have H' := Aside0.mk H
                          clear H
                          have hnb40 := NB513_507.out
                          have hnc40 := NB507_513.out
                          have hcz41_0 : w22.cell? ⟨gb513, 0, none⟩ = some (.int .i64 0) := (blk_cell BK513.out 0).trans rfl
                          have hcz41_1 : w22.cell? ⟨gb513, 1, none⟩ = some (.int .i64 0) := (blk_cell BK513.out 1).trans rfl
                          have hcz41_2 : w22.cell? ⟨gb513, 2, none⟩ = some (.int .i64 0) := (blk_cell BK513.out 2).trans rfl
                          have hcz41_3 : w22.cell? ⟨gb513, 3, none⟩ = some (.int .i64 0) := (blk_cell BK513.out 3).trans rfl
                          have hcz41_4 : w22.cell? ⟨gb513, 4, none⟩ = some (.int .i64 0) := (blk_cell BK513.out 4).trans rfl
                          have hcz41_5 : w22.cell? ⟨gb513, 5, none⟩ = some (.int .i64 0) := (blk_cell BK513.out 5).trans rfl
                          have hcz41_6 : w22.cell? ⟨gb513, 6, none⟩ = some (.int .i64 0) := (blk_cell BK513.out 6).trans rfl
                          have hcz41_7 : w22.cell? ⟨gb513, 7, none⟩ = some (.int .u8 0) := (blk_cell BK513.out 7).trans rfl
                          have hfz41_0 := blk_frozen BK513.out 0
                          have hfz41_1 := blk_frozen BK513.out 1
                          have hfz41_2 := blk_frozen BK513.out 2
                          have hfz41_3 := blk_frozen BK513.out 3
                          have hfz41_4 := blk_frozen BK513.out 4
                          have hfz41_5 := blk_frozen BK513.out 5
                          have hfz41_6 := blk_frozen BK513.out 6
                          have hfz41_7 := blk_frozen BK513.out 7
                          go_wp2_with (first | (go_at_call 99; (with_reducible refine (letterbagref32_Right.calls ((rd_T23 l0_1 x4_3).f0) ((rd_T23 l0_1 x4_3).f1) ((rd_T23 l0_1 x4_3).f2) ((rd_T23 l0_1 x4_3).f3) ((rd_T23 l0_1 x4_3).f4) ((rd_T23 l0_1 x4_3).f5) ((rd_T23 l0_1 x4_3).f6) ((rd_T23 l0_1 x4_3).f7) false _ A25.out).mono ?_); rintro e w42 ⟨rfl, hb⟩; have n0_ := Aside0.mk (blk_below (g := gb507) (o := .cells #[.slice A0_0 l0_0.length c0_0, .slice (some ad512) l0_1.length c0_1] 29 (0, 0)) (by (with_reducible repeat (first | refine blk_drewN ?_ _ | refine blk_drew ?_ | refine blk_alloc ?_ _)); refine blk_far ?_ NB507_513.out _; (with_reducible repeat (first | refine blk_drewN ?_ _ | refine blk_drew ?_ | refine blk_alloc ?_ _)); refine blk_far ?_ NB507_513.out _; (with_reducible repeat (first | refine blk_drewN ?_ _ | refine blk_drew ?_ | refine blk_alloc ?_ _)); refine blk_far ?_ NB507_513.out _; (with_reducible repeat (first | refine blk_drewN ?_ _ | refine blk_drew ?_ | refine blk_alloc ?_ _)); refine blk_far ?_ NB507_513.out _; (with_reducible repeat (first | refine blk_drewN ?_ _ | refine blk_drew ?_ | refine blk_alloc ?_ _)); refine blk_far ?_ NB507_513.out _; (with_reducible repeat (first | refine blk_drewN ?_ _ | refine blk_drew ?_ | refine blk_alloc ?_ _)); refine blk_far ?_ NB507_513.out _; (with_reducible repeat (first | refine blk_drewN ?_ _ | refine blk_drew ?_ | refine blk_alloc ?_ _)); refine blk_far ?_ NB507_513.out _; (with_reducible repeat (first | refine blk_drewN ?_ _ | refine blk_drew ?_ | refine blk_alloc ?_ _)); refine blk_far ?_ NB507_513.out _; (with_reducible repeat (first | refine blk_drewN ?_ _ | refine blk_drew ?_ | refine blk_alloc ?_ _)); exact BK507.out) hb); have n1_ := Aside0.mk (blk_below (g := gb513) (o := .cells #[.int .i64 ((rd_T23 l0_1 x4_3).f0), .int .i64 ((rd_T23 l0_1 x4_3).f1), .int .i64 ((rd_T23 l0_1 x4_3).f2), .int .i64 ((rd_T23 l0_1 x4_3).f3), .int .i64 ((rd_T23 l0_1 x4_3).f4), .int .i64 ((rd_T23 l0_1 x4_3).f5), .int .i64 ((rd_T23 l0_1 x4_3).f6), .int .u8 ((rd_T23 l0_1 x4_3).f7)] 23 (0, 0)) (by (with_reducible repeat (first | refine blk_drewN ?_ _ | refine blk_drew ?_ | refine blk_alloc ?_ _)); refine blk_put (cs := #[.int .i64 ((rd_T23 l0_1 x4_3).f0), .int .i64 ((rd_T23 l0_1 x4_3).f1), .int .i64 ((rd_T23 l0_1 x4_3).f2), .int .i64 ((rd_T23 l0_1 x4_3).f3), .int .i64 ((rd_T23 l0_1 x4_3).f4), .int .i64 ((rd_T23 l0_1 x4_3).f5), .int .i64 ((rd_T23 l0_1 x4_3).f6), .int .u8 0]) ?_ 7 _ rfl; (with_reducible repeat (first | refine blk_drewN ?_ _ | refine blk_drew ?_ | refine blk_alloc ?_ _)); refine blk_put (cs := #[.int .i64 ((rd_T23 l0_1 x4_3).f0), .int .i64 ((rd_T23 l0_1 x4_3).f1), .int .i64 ((rd_T23 l0_1 x4_3).f2), .int .i64 ((rd_T23 l0_1 x4_3).f3), .int .i64 ((rd_T23 l0_1 x4_3).f4), .int .i64 ((rd_T23 l0_1 x4_3).f5), .int .i64 0, .int .u8 0]) ?_ 6 _ rfl; (with_reducible repeat (first | refine blk_drewN ?_ _ | refine blk_drew ?_ | refine blk_alloc ?_ _)); refine blk_put (cs := #[.int .i64 ((rd_T23 l0_1 x4_3).f0), .int .i64 ((rd_T23 l0_1 x4_3).f1), .int .i64 ((rd_T23 l0_1 x4_3).f2), .int .i64 ((rd_T23 l0_1 x4_3).f3), .int .i64 ((rd_T23 l0_1 x4_3).f4), .int .i64 0, .int .i64 0, .int .u8 0]) ?_ 5 _ rfl; (with_reducible repeat (first | refine blk_drewN ?_ _ | refine blk_drew ?_ | refine blk_alloc ?_ _)); refine blk_put (cs := #[.int .i64 ((rd_T23 l0_1 x4_3).f0), .int .i64 ((rd_T23 l0_1 x4_3).f1), .int .i64 ((rd_T23 l0_1 x4_3).f2), .int .i64 ((rd_T23 l0_1 x4_3).f3), .int .i64 0, .int .i64 0, .int .i64 0, .int .u8 0]) ?_ 4 _ rfl; (with_reducible repeat (first | refine blk_drewN ?_ _ | refine blk_drew ?_ | refine blk_alloc ?_ _)); refine blk_put (cs := #[.int .i64 ((rd_T23 l0_1 x4_3).f0), .int .i64 ((rd_T23 l0_1 x4_3).f1), .int .i64 ((rd_T23 l0_1 x4_3).f2), .int .i64 0, .int .i64 0, .int .i64 0, .int .i64 0, .int .u8 0]) ?_ 3 _ rfl; (with_reducible repeat (first | refine blk_drewN ?_ _ | refine blk_drew ?_ | refine blk_alloc ?_ _)); refine blk_put (cs := #[.int .i64 ((rd_T23 l0_1 x4_3).f0), .int .i64 ((rd_T23 l0_1 x4_3).f1), .int .i64 0, .int .i64 0, .int .i64 0, .int .i64 0, .int .i64 0, .int .u8 0]) ?_ 2 _ rfl; (with_reducible repeat (first | refine blk_drewN ?_ _ | refine blk_drew ?_ | refine blk_alloc ?_ _)); refine blk_put (cs := #[.int .i64 ((rd_T23 l0_1 x4_3).f0), .int .i64 0, .int .i64 0, .int .i64 0, .int .i64 0, .int .i64 0, .int .i64 0, .int .u8 0]) ?_ 1 _ rfl; (with_reducible repeat (first | refine blk_drewN ?_ _ | refine blk_drew ?_ | refine blk_alloc ?_ _)); refine blk_put (cs := #[.int .i64 0, .int .i64 0, .int .i64 0, .int .i64 0, .int .i64 0, .int .i64 0, .int .i64 0, .int .u8 0]) ?_ 0 _ rfl; (with_reducible repeat (first | refine blk_drewN ?_ _ | refine blk_drew ?_ | refine blk_alloc ?_ _)); exact BK513.out) hb); have n2_ := Aside0.mk (below_step (by repeat (first | (with_reducible first | exact HB.out | apply below_alloc | apply pw_below_drewN | apply below_drew1 | refine below_set ?_ GE507.out | refine below_set ?_ GE513.out) | exact HB.out)) hb); clear BK507; clear BK513; clear HB; have BK507 := n0_; have BK513 := n1_; have HB := n2_; clear n0_ n1_ n2_; (try clear hb); (try clear hb2); (try clear hk); (try clear hi)))
                          repeat (go_quiet (first | (go_at_call 99; (with_reducible refine (letterbagref32_Right.calls ((rd_T23 l0_1 x4_3).f0) ((rd_T23 l0_1 x4_3).f1) ((rd_T23 l0_1 x4_3).f2) ((rd_T23 l0_1 x4_3).f3) ((rd_T23 l0_1 x4_3).f4) ((rd_T23 l0_1 x4_3).f5) ((rd_T23 l0_1 x4_3).f6) ((rd_T23 l0_1 x4_3).f7) false _ A25.out).mono ?_); rintro e w42 ⟨rfl, hb⟩; have n0_ := Aside0.mk (blk_below (g := gb507) (o := .cells #[.slice A0_0 l0_0.length c0_0, .slice (some ad512) l0_1.length c0_1] 29 (0, 0)) (by (with_reducible repeat (first | refine blk_drewN ?_ _ | refine blk_drew ?_ | refine blk_alloc ?_ _)); refine blk_far ?_ NB507_513.out _; (with_reducible repeat (first | refine blk_drewN ?_ _ | refine blk_drew ?_ | refine blk_alloc ?_ _)); refine blk_far ?_ NB507_513.out _; (with_reducible repeat (first | refine blk_drewN ?_ _ | refine blk_drew ?_ | refine blk_alloc ?_ _)); refine blk_far ?_ NB507_513.out _; (with_reducible repeat (first | refine blk_drewN ?_ _ | refine blk_drew ?_ | refine blk_alloc ?_ _)); refine blk_far ?_ NB507_513.out _; (with_reducible repeat (first | refine blk_drewN ?_ _ | refine blk_drew ?_ | refine blk_alloc ?_ _)); refine blk_far ?_ NB507_513.out _; (with_reducible repeat (first | refine blk_drewN ?_ _ | refine blk_drew ?_ | refine blk_alloc ?_ _)); refine blk_far ?_ NB507_513.out _; (with_reducible repeat (first | refine blk_drewN ?_ _ | refine blk_drew ?_ | refine blk_alloc ?_ _)); refine blk_far ?_ NB507_513.out _; (with_reducible repeat (first | refine blk_drewN ?_ _ | refine blk_drew ?_ | refine blk_alloc ?_ _)); refine blk_far ?_ NB507_513.out _; (with_reducible repeat (first | refine blk_drewN ?_ _ | refine blk_drew ?_ | refine blk_alloc ?_ _)); exact BK507.out) hb); have n1_ := Aside0.mk (blk_below (g := gb513) (o := .cells #[.int .i64 ((rd_T23 l0_1 x4_3).f0), .int .i64 ((rd_T23 l0_1 x4_3).f1), .int .i64 ((rd_T23 l0_1 x4_3).f2), .int .i64 ((rd_T23 l0_1 x4_3).f3), .int .i64 ((rd_T23 l0_1 x4_3).f4), .int .i64 ((rd_T23 l0_1 x4_3).f5), .int .i64 ((rd_T23 l0_1 x4_3).f6), .int .u8 ((rd_T23 l0_1 x4_3).f7)] 23 (0, 0)) (by (with_reducible repeat (first | refine blk_drewN ?_ _ | refine blk_drew ?_ | refine blk_alloc ?_ _)); refine blk_put (cs := #[.int .i64 ((rd_T23 l0_1 x4_3).f0), .int .i64 ((rd_T23 l0_1 x4_3).f1), .int .i64 ((rd_T23 l0_1 x4_3).f2), .int .i64 ((rd_T23 l0_1 x4_3).f3), .int .i64 ((rd_T23 l0_1 x4_3).f4), .int .i64 ((rd_T23 l0_1 x4_3).f5), .int .i64 ((rd_T23 l0_1 x4_3).f6), .int .u8 0]) ?_ 7 _ rfl; (with_reducible repeat (first | refine blk_drewN ?_ _ | refine blk_drew ?_ | refine blk_alloc ?_ _)); refine blk_put (cs := #[.int .i64 ((rd_T23 l0_1 x4_3).f0), .int .i64 ((rd_T23 l0_1 x4_3).f1), .int .i64 ((rd_T23 l0_1 x4_3).f2), .int .i64 ((rd_T23 l0_1 x4_3).f3), .int .i64 ((rd_T23 l0_1 x4_3).f4), .int .i64 ((rd_T23 l0_1 x4_3).f5), .int .i64 0, .int .u8 0]) ?_ 6 _ rfl; (with_reducible repeat (first | refine blk_drewN ?_ _ | refine blk_drew ?_ | refine blk_alloc ?_ _)); refine blk_put (cs := #[.int .i64 ((rd_T23 l0_1 x4_3).f0), .int .i64 ((rd_T23 l0_1 x4_3).f1), .int .i64 ((rd_T23 l0_1 x4_3).f2), .int .i64 ((rd_T23 l0_1 x4_3).f3), .int .i64 ((rd_T23 l0_1 x4_3).f4), .int .i64 0, .int .i64 0, .int .u8 0]) ?_ 5 _ rfl; (with_reducible repeat (first | refine blk_drewN ?_ _ | refine blk_drew ?_ | refine blk_alloc ?_ _)); refine blk_put (cs := #[.int .i64 ((rd_T23 l0_1 x4_3).f0), .int .i64 ((rd_T23 l0_1 x4_3).f1), .int .i64 ((rd_T23 l0_1 x4_3).f2), .int .i64 ((rd_T23 l0_1 x4_3).f3), .int .i64 0, .int .i64 0, .int .i64 0, .int .u8 0]) ?_ 4 _ rfl; (with_reducible repeat (first | refine blk_drewN ?_ _ | refine blk_drew ?_ | refine blk_alloc ?_ _)); refine blk_put (cs := #[.int .i64 ((rd_T23 l0_1 x4_3).f0), .int .i64 ((rd_T23 l0_1 x4_3).f1), .int .i64 ((rd_T23 l0_1 x4_3).f2), .int .i64 0, .int .i64 0, .int .i64 0, .int .i64 0, .int .u8 0]) ?_ 3 _ rfl; (with_reducible repeat (first | refine blk_drewN ?_ _ | refine blk_drew ?_ | refine blk_alloc ?_ _)); refine blk_put (cs := #[.int .i64 ((rd_T23 l0_1 x4_3).f0), .int .i64 ((rd_T23 l0_1 x4_3).f1), .int .i64 0, .int .i64 0, .int .i64 0, .int .i64 0, .int .i64 0, .int .u8 0]) ?_ 2 _ rfl; (with_reducible repeat (first | refine blk_drewN ?_ _ | refine blk_drew ?_ | refine blk_alloc ?_ _)); refine blk_put (cs := #[.int .i64 ((rd_T23 l0_1 x4_3).f0), .int .i64 0, .int .i64 0, .int .i64 0, .int .i64 0, .int .i64 0, .int .i64 0, .int .u8 0]) ?_ 1 _ rfl; (with_reducible repeat (first | refine blk_drewN ?_ _ | refine blk_drew ?_ | refine blk_alloc ?_ _)); refine blk_put (cs := #[.int .i64 0, .int .i64 0, .int .i64 0, .int .i64 0, .int .i64 0, .int .i64 0, .int .i64 0, .int .u8 0]) ?_ 0 _ rfl; (with_reducible repeat (first | refine blk_drewN ?_ _ | refine blk_drew ?_ | refine blk_alloc ?_ _)); exact BK513.out) hb); have n2_ := Aside0.mk (below_step (by repeat (first | (with_reducible first | exact HB.out | apply below_alloc | apply pw_below_drewN | apply below_drew1 | refine below_set ?_ GE507.out | refine below_set ?_ GE513.out) | exact HB.out)) hb); clear BK507; clear BK513; clear HB; have BK507 := n0_; have BK513 := n1_; have HB := n2_; clear n0_ n1_ n2_; (try clear hb); (try clear hb2); (try clear hk); (try clear hi))); try go_wp2_with (first | (go_at_call 99; (with_reducible refine (letterbagref32_Right.calls ((rd_T23 l0_1 x4_3).f0) ((rd_T23 l0_1 x4_3).f1) ((rd_T23 l0_1 x4_3).f2) ((rd_T23 l0_1 x4_3).f3) ((rd_T23 l0_1 x4_3).f4) ((rd_T23 l0_1 x4_3).f5) ((rd_T23 l0_1 x4_3).f6) ((rd_T23 l0_1 x4_3).f7) false _ A25.out).mono ?_); rintro e w42 ⟨rfl, hb⟩; have n0_ := Aside0.mk (blk_below (g := gb507) (o := .cells #[.slice A0_0 l0_0.length c0_0, .slice (some ad512) l0_1.length c0_1] 29 (0, 0)) (by (with_reducible repeat (first | refine blk_drewN ?_ _ | refine blk_drew ?_ | refine blk_alloc ?_ _)); refine blk_far ?_ NB507_513.out _; (with_reducible repeat (first | refine blk_drewN ?_ _ | refine blk_drew ?_ | refine blk_alloc ?_ _)); refine blk_far ?_ NB507_513.out _; (with_reducible repeat (first | refine blk_drewN ?_ _ | refine blk_drew ?_ | refine blk_alloc ?_ _)); refine blk_far ?_ NB507_513.out _; (with_reducible repeat (first | refine blk_drewN ?_ _ | refine blk_drew ?_ | refine blk_alloc ?_ _)); refine blk_far ?_ NB507_513.out _; (with_reducible repeat (first | refine blk_drewN ?_ _ | refine blk_drew ?_ | refine blk_alloc ?_ _)); refine blk_far ?_ NB507_513.out _; (with_reducible repeat (first | refine blk_drewN ?_ _ | refine blk_drew ?_ | refine blk_alloc ?_ _)); refine blk_far ?_ NB507_513.out _; (with_reducible repeat (first | refine blk_drewN ?_ _ | refine blk_drew ?_ | refine blk_alloc ?_ _)); refine blk_far ?_ NB507_513.out _; (with_reducible repeat (first | refine blk_drewN ?_ _ | refine blk_drew ?_ | refine blk_alloc ?_ _)); refine blk_far ?_ NB507_513.out _; (with_reducible repeat (first | refine blk_drewN ?_ _ | refine blk_drew ?_ | refine blk_alloc ?_ _)); exact BK507.out) hb); have n1_ := Aside0.mk (blk_below (g := gb513) (o := .cells #[.int .i64 ((rd_T23 l0_1 x4_3).f0), .int .i64 ((rd_T23 l0_1 x4_3).f1), .int .i64 ((rd_T23 l0_1 x4_3).f2), .int .i64 ((rd_T23 l0_1 x4_3).f3), .int .i64 ((rd_T23 l0_1 x4_3).f4), .int .i64 ((rd_T23 l0_1 x4_3).f5), .int .i64 ((rd_T23 l0_1 x4_3).f6), .int .u8 ((rd_T23 l0_1 x4_3).f7)] 23 (0, 0)) (by (with_reducible repeat (first | refine blk_drewN ?_ _ | refine blk_drew ?_ | refine blk_alloc ?_ _)); refine blk_put (cs := #[.int .i64 ((rd_T23 l0_1 x4_3).f0), .int .i64 ((rd_T23 l0_1 x4_3).f1), .int .i64 ((rd_T23 l0_1 x4_3).f2), .int .i64 ((rd_T23 l0_1 x4_3).f3), .int .i64 ((rd_T23 l0_1 x4_3).f4), .int .i64 ((rd_T23 l0_1 x4_3).f5), .int .i64 ((rd_T23 l0_1 x4_3).f6), .int .u8 0]) ?_ 7 _ rfl; (with_reducible repeat (first | refine blk_drewN ?_ _ | refine blk_drew ?_ | refine blk_alloc ?_ _)); refine blk_put (cs := #[.int .i64 ((rd_T23 l0_1 x4_3).f0), .int .i64 ((rd_T23 l0_1 x4_3).f1), .int .i64 ((rd_T23 l0_1 x4_3).f2), .int .i64 ((rd_T23 l0_1 x4_3).f3), .int .i64 ((rd_T23 l0_1 x4_3).f4), .int .i64 ((rd_T23 l0_1 x4_3).f5), .int .i64 0, .int .u8 0]) ?_ 6 _ rfl; (with_reducible repeat (first | refine blk_drewN ?_ _ | refine blk_drew ?_ | refine blk_alloc ?_ _)); refine blk_put (cs := #[.int .i64 ((rd_T23 l0_1 x4_3).f0), .int .i64 ((rd_T23 l0_1 x4_3).f1), .int .i64 ((rd_T23 l0_1 x4_3).f2), .int .i64 ((rd_T23 l0_1 x4_3).f3), .int .i64 ((rd_T23 l0_1 x4_3).f4), .int .i64 0, .int .i64 0, .int .u8 0]) ?_ 5 _ rfl; (with_reducible repeat (first | refine blk_drewN ?_ _ | refine blk_drew ?_ | refine blk_alloc ?_ _)); refine blk_put (cs := #[.int .i64 ((rd_T23 l0_1 x4_3).f0), .int .i64 ((rd_T23 l0_1 x4_3).f1), .int .i64 ((rd_T23 l0_1 x4_3).f2), .int .i64 ((rd_T23 l0_1 x4_3).f3), .int .i64 0, .int .i64 0, .int .i64 0, .int .u8 0]) ?_ 4 _ rfl; (with_reducible repeat (first | refine blk_drewN ?_ _ | refine blk_drew ?_ | refine blk_alloc ?_ _)); refine blk_put (cs := #[.int .i64 ((rd_T23 l0_1 x4_3).f0), .int .i64 ((rd_T23 l0_1 x4_3).f1), .int .i64 ((rd_T23 l0_1 x4_3).f2), .int .i64 0, .int .i64 0, .int .i64 0, .int .i64 0, .int .u8 0]) ?_ 3 _ rfl; (with_reducible repeat (first | refine blk_drewN ?_ _ | refine blk_drew ?_ | refine blk_alloc ?_ _)); refine blk_put (cs := #[.int .i64 ((rd_T23 l0_1 x4_3).f0), .int .i64 ((rd_T23 l0_1 x4_3).f1), .int .i64 0, .int .i64 0, .int .i64 0, .int .i64 0, .int .i64 0, .int .u8 0]) ?_ 2 _ rfl; (with_reducible repeat (first | refine blk_drewN ?_ _ | refine blk_drew ?_ | refine blk_alloc ?_ _)); refine blk_put (cs := #[.int .i64 ((rd_T23 l0_1 x4_3).f0), .int .i64 0, .int .i64 0, .int .i64 0, .int .i64 0, .int .i64 0, .int .i64 0, .int .u8 0]) ?_ 1 _ rfl; (with_reducible repeat (first | refine blk_drewN ?_ _ | refine blk_drew ?_ | refine blk_alloc ?_ _)); refine blk_put (cs := #[.int .i64 0, .int .i64 0, .int .i64 0, .int .i64 0, .int .i64 0, .int .i64 0, .int .i64 0, .int .u8 0]) ?_ 0 _ rfl; (with_reducible repeat (first | refine blk_drewN ?_ _ | refine blk_drew ?_ | refine blk_alloc ?_ _)); exact BK513.out) hb); have n2_ := Aside0.mk (below_step (by repeat (first | (with_reducible first | exact HB.out | apply below_alloc | apply pw_below_drewN | apply below_drew1 | refine below_set ?_ GE507.out | refine below_set ?_ GE513.out) | exact HB.out)) hb); clear BK507; clear BK513; clear HB; have BK507 := n0_; have BK513 := n1_; have HB := n2_; clear n0_ n1_ n2_; (try clear hb); (try clear hb2); (try clear hk); (try clear hi))))
                          go_meet
                          case rel => exact ⟨_, (true), (by first | rfl | (simp; done) | (simp [*]; done)), H', ⟨by have := HJ1.out; have := HK2.out; have := HK3.out; first | omega | exact Nat.le_refl _⟩, ⟨by (with_reducible repeat (first | refine blk_drewN ?_ _ | refine blk_drew ?_ | refine blk_alloc ?_ _)); exact BK507.out⟩, ⟨by (with_reducible repeat (first | refine blk_drewN ?_ _ | refine blk_drew ?_ | refine blk_alloc ?_ _)); exact BK513.out⟩, ⟨by repeat (first | (with_reducible first | exact HB.out | apply below_alloc | apply pw_below_drewN | apply below_drew1 | refine below_set ?_ GE507.out | refine below_set ?_ GE513.out) | exact HB.out)⟩⟩
                      case rest =>
                        clear HC20
                        try clear c1
                        try clear c2
                        try clear p2
                        try clear c3
                        try clear c4
                        try clear c4b0
                        try clear c4b1
                        try clear p5
                        try clear q5
                        try clear hx5
                        try clear p6
                        try clear c7
                        try clear c8
                        try clear c8b0
                        try clear c9
                        try clear c9b0
                        try clear c11
                        try clear c13
                        try clear c13b0
                        try clear c18
                        try clear c18b0
                        try clear c19
                        try clear c19b0
                        try clear c23
                        try clear c26
                        try clear c28
                        try clear c28b0
                        try clear c28b1
                        try clear c29
                        try clear c35
                        try clear c40
                        try clear hcz14_0
                        try clear hcz14_1
                        try clear hcz15_0
                        try clear hcz15_1
                        try clear hcz16_0
                        try clear hcz16_1
                        try clear hcz17_0
                        try clear hcz17_1
                        try clear hcz21_0
                        try clear hcz21_1
                        try clear hcz24_0
                        try clear hcz24_1
                        try clear hcz24_2
                        try clear hcz24_3
                        try clear hcz24_4
                        try clear hcz24_5
                        try clear hcz24_6
                        try clear hcz24_7
                        try clear hcz30_0
                        try clear hcz30_1
                        try clear hcz30_2
                        try clear hcz30_3
                        try clear hcz30_4
                        try clear hcz30_5
                        try clear hcz30_6
                        try clear hcz30_7
                        try clear hcz32_0
                        try clear hcz32_1
                        try clear hcz33_0
                        try clear hcz33_1
                        try clear hcz33_2
                        try clear hcz33_3
                        try clear hcz33_4
                        try clear hcz33_5
                        try clear hcz33_6
                        try clear hcz33_7
                        try clear hcz36_0
                        try clear hcz36_1
                        try clear hcz36_2
                        try clear hcz36_3
                        try clear hcz36_4
                        try clear hcz36_5
                        try clear hcz36_6
                        try clear hcz36_7
                        try clear hcz38_0
                        try clear hcz38_1
                        try clear hcz39_0
                        try clear hcz39_1
                        try clear hcz39_2
                        try clear hcz39_3
                        try clear hcz39_4
                        try clear hcz39_5
                        try clear hcz39_6
                        try clear hcz39_7
                        try clear hcz41_0
                        try clear hcz41_1
                        try clear hcz41_2
                        try clear hcz41_3
                        try clear hcz41_4
                        try clear hcz41_5
                        try clear hcz41_6
                        try clear hcz41_7
                        try clear hcz5_0
                        try clear hcz5_1
                        try clear hcz6_0
                        try clear hcz6_1
                        try clear hfz14_0
                        try clear hfz14_1
                        try clear hfz15_0
                        try clear hfz15_1
                        try clear hfz16_0
                        try clear hfz16_1
                        try clear hfz17_0
                        try clear hfz17_1
                        try clear hfz21_0
                        try clear hfz21_1
                        try clear hfz24_0
                        try clear hfz24_1
                        try clear hfz24_2
                        try clear hfz24_3
                        try clear hfz24_4
                        try clear hfz24_5
                        try clear hfz24_6
                        try clear hfz24_7
                        try clear hfz30_0
                        try clear hfz30_1
                        try clear hfz30_2
                        try clear hfz30_3
                        try clear hfz30_4
                        try clear hfz30_5
                        try clear hfz30_6
                        try clear hfz30_7
                        try clear hfz32_0
                        try clear hfz32_1
                        try clear hfz33_0
                        try clear hfz33_1
                        try clear hfz33_2
                        try clear hfz33_3
                        try clear hfz33_4
                        try clear hfz33_5
                        try clear hfz33_6
                        try clear hfz33_7
                        try clear hfz36_0
                        try clear hfz36_1
                        try clear hfz36_2
                        try clear hfz36_3
                        try clear hfz36_4
                        try clear hfz36_5
                        try clear hfz36_6
                        try clear hfz36_7
                        try clear hfz38_0
                        try clear hfz38_1
                        try clear hfz39_0
                        try clear hfz39_1
                        try clear hfz39_2
                        try clear hfz39_3
                        try clear hfz39_4
                        try clear hfz39_5
                        try clear hfz39_6
                        try clear hfz39_7
                        try clear hfz41_0
                        try clear hfz41_1
                        try clear hfz41_2
                        try clear hfz41_3
                        try clear hfz41_4
                        try clear hfz41_5
                        try clear hfz41_6
                        try clear hfz41_7
                        try clear hfz5_0
                        try clear hfz5_1
                        try clear hfz6_0
                        try clear hfz6_1
                        try clear hx508_0
                        try clear hx510_0
                        try clear hx512_0
                        try clear hx512_1
                        try clear hx512_2
                        try clear hx512_3
                        try clear hx512_4
                        try clear hx512_5
                        try clear hx512_6
                        try clear hx512_7
                        try clear p2
                        try clear p5
                        try clear p508
                        try clear p510
                        try clear p512
                        try clear p6
                        try clear q5
                        try clear q508
                        try clear q510
                        try clear q512
                        obtain ⟨kq, x72_19, rfl, HA, HJ19, BK507, BK513, HB⟩ := hcut
                        cases kq with
                        | zero => exact absurd HA.out (by simp [letterbagref32_Valid.j3])
                        | succ kj19 =>
                          have H := HA.out
                          clear HA
                          simp only [letterbagref32_Valid.j3] at H
                          by_cases c43 : x72_19 = true
                          · subst c43
                            have H1 : (some 321) = some r := by rw [if_pos rfl] at H; exact H
                            clear H
                            have H := H1
                            clear H1
                            obtain rfl := Option.some.inj H
                            go_wp2
                            repeat (go_quiet (fail); try go_wp2)
                            go_ret
                            exact ⟨by first | rfl | (simp [errW_none, errW_some] <;> rfl) | (simp [*, errW_none, errW_some] <;> rfl), by repeat (first | (with_reducible first | exact HB.out | apply below_alloc | apply pw_below_drewN | apply below_drew1 | refine below_set ?_ GE507.out | refine below_set ?_ GE513.out) | exact HB.out)⟩
                          · replace c43 := Bool.eq_false_iff.mpr c43
                            subst c43
                            have H1 : (letterbagref32_Valid.l2 kj19 x4_3 0 l0_0 l0_1 ((rd_T23 l0_1 x4_3).f0) ((rd_T23 l0_1 x4_3).f1) ((rd_T23 l0_1 x4_3).f2) ((rd_T23 l0_1 x4_3).f3) ((rd_T23 l0_1 x4_3).f4) ((rd_T23 l0_1 x4_3).f5) ((rd_T23 l0_1 x4_3).f6) ((rd_T23 l0_1 x4_3).f7)) = some r := by rw [if_neg (show ¬ (false = true) by decide)] at H; exact H
                            clear H
                            have H := H1
                            clear H1
                            have H' := Aside0.mk H
                            clear H
                            go_wp2
                            repeat (go_quiet (fail); try go_wp2)
                            go_loopg [6] kj19 (fun kq v6 w' => ∃ (x6_5 : Int), v6 = .int .i64 x6_5 ∧ Aside0 (letterbagref32_Valid.l2 kq x4_3 x6_5 l0_0 l0_1 ((rd_T23 l0_1 x4_3).f0) ((rd_T23 l0_1 x4_3).f1) ((rd_T23 l0_1 x4_3).f2) ((rd_T23 l0_1 x4_3).f3) ((rd_T23 l0_1 x4_3).f4) ((rd_T23 l0_1 x4_3).f5) ((rd_T23 l0_1 x4_3).f6) ((rd_T23 l0_1 x4_3).f7) = some r) ∧ Aside0 (kq ≤ kj19) ∧ Aside0 (w'.heap[gb507]? = some (.cells #[(.slice A0_0 l0_0.length c0_0), (.slice (some ad512) l0_1.length c0_1)] 29 (0, 0))) ∧ Aside0 (w'.heap[gb513]? = some (.cells #[.int .i64 ((rd_T23 l0_1 x4_3).f0), .int .i64 ((rd_T23 l0_1 x4_3).f1), .int .i64 ((rd_T23 l0_1 x4_3).f2), .int .i64 ((rd_T23 l0_1 x4_3).f3), .int .i64 ((rd_T23 l0_1 x4_3).f4), .int .i64 ((rd_T23 l0_1 x4_3).f5), .int .i64 ((rd_T23 l0_1 x4_3).f6), .int .u8 ((rd_T23 l0_1 x4_3).f7)] 23 (0, 0))) ∧ Aside0 (Below w.heap.size w w'))
                            case atStart => exact ⟨(0), (by first | rfl | (simp; done) | (simp [*]; done)), H', ⟨Nat.le_refl _⟩, ⟨by (with_reducible repeat (first | refine blk_drewN ?_ _ | refine blk_drew ?_ | refine blk_alloc ?_ _)); exact BK507.out⟩, ⟨by (with_reducible repeat (first | refine blk_drewN ?_ _ | refine blk_drew ?_ | refine blk_alloc ?_ _)); exact BK513.out⟩, ⟨by repeat (first | (with_reducible first | exact HB.out | apply below_alloc | apply pw_below_drewN | apply below_drew1 | refine below_set ?_ GE507.out | refine below_set ?_ GE513.out) | exact HB.out)⟩⟩
                            case round =>
                              clear H'
                              try clear c1
                              try clear c2
                              try clear p2
                              try clear c3
                              try clear c4
                              try clear c4b0
                              try clear c4b1
                              try clear p5
                              try clear q5
                              try clear hx5
                              try clear p6
                              try clear c7
                              try clear c8
                              try clear c8b0
                              try clear c9
                              try clear c9b0
                              try clear c11
                              try clear c13
                              try clear c13b0
                              try clear c18
                              try clear c18b0
                              try clear c19
                              try clear c19b0
                              try clear c23
                              try clear c26
                              try clear c28
                              try clear c28b0
                              try clear c28b1
                              try clear c29
                              try clear c35
                              try clear c40
                              try clear c43
                              try clear hcz14_0
                              try clear hcz14_1
                              try clear hcz15_0
                              try clear hcz15_1
                              try clear hcz16_0
                              try clear hcz16_1
                              try clear hcz17_0
                              try clear hcz17_1
                              try clear hcz21_0
                              try clear hcz21_1
                              try clear hcz24_0
                              try clear hcz24_1
                              try clear hcz24_2
                              try clear hcz24_3
                              try clear hcz24_4
                              try clear hcz24_5
                              try clear hcz24_6
                              try clear hcz24_7
                              try clear hcz30_0
                              try clear hcz30_1
                              try clear hcz30_2
                              try clear hcz30_3
                              try clear hcz30_4
                              try clear hcz30_5
                              try clear hcz30_6
                              try clear hcz30_7
                              try clear hcz32_0
                              try clear hcz32_1
                              try clear hcz33_0
                              try clear hcz33_1
                              try clear hcz33_2
                              try clear hcz33_3
                              try clear hcz33_4
                              try clear hcz33_5
                              try clear hcz33_6
                              try clear hcz33_7
                              try clear hcz36_0
                              try clear hcz36_1
                              try clear hcz36_2
                              try clear hcz36_3
                              try clear hcz36_4
                              try clear hcz36_5
                              try clear hcz36_6
                              try clear hcz36_7
                              try clear hcz38_0
                              try clear hcz38_1
                              try clear hcz39_0
                              try clear hcz39_1
                              try clear hcz39_2
                              try clear hcz39_3
                              try clear hcz39_4
                              try clear hcz39_5
                              try clear hcz39_6
                              try clear hcz39_7
                              try clear hcz41_0
                              try clear hcz41_1
                              try clear hcz41_2
                              try clear hcz41_3
                              try clear hcz41_4
                              try clear hcz41_5
                              try clear hcz41_6
                              try clear hcz41_7
                              try clear hcz5_0
                              try clear hcz5_1
                              try clear hcz6_0
                              try clear hcz6_1
                              try clear hfz14_0
                              try clear hfz14_1
                              try clear hfz15_0
                              try clear hfz15_1
                              try clear hfz16_0
                              try clear hfz16_1
                              try clear hfz17_0
                              try clear hfz17_1
                              try clear hfz21_0
                              try clear hfz21_1
                              try clear hfz24_0
                              try clear hfz24_1
                              try clear hfz24_2
                              try clear hfz24_3
                              try clear hfz24_4
                              try clear hfz24_5
                              try clear hfz24_6
                              try clear hfz24_7
                              try clear hfz30_0
                              try clear hfz30_1
                              try clear hfz30_2
                              try clear hfz30_3
                              try clear hfz30_4
                              try clear hfz30_5
                              try clear hfz30_6
                              try clear hfz30_7
                              try clear hfz32_0
                              try clear hfz32_1
                              try clear hfz33_0
                              try clear hfz33_1
                              try clear hfz33_2
                              try clear hfz33_3
                              try clear hfz33_4
                              try clear hfz33_5
                              try clear hfz33_6
                              try clear hfz33_7
                              try clear hfz36_0
                              try clear hfz36_1
                              try clear hfz36_2
                              try clear hfz36_3
                              try clear hfz36_4
                              try clear hfz36_5
                              try clear hfz36_6
                              try clear hfz36_7
                              try clear hfz38_0
                              try clear hfz38_1
                              try clear hfz39_0
                              try clear hfz39_1
                              try clear hfz39_2
                              try clear hfz39_3
                              try clear hfz39_4
                              try clear hfz39_5
                              try clear hfz39_6
                              try clear hfz39_7
                              try clear hfz41_0
                              try clear hfz41_1
                              try clear hfz41_2
                              try clear hfz41_3
                              try clear hfz41_4
                              try clear hfz41_5
                              try clear hfz41_6
                              try clear hfz41_7
                              try clear hfz5_0
                              try clear hfz5_1
                              try clear hfz6_0
                              try clear hfz6_1
                              try clear hx508_0
                              try clear hx510_0
                              try clear hx512_0
                              try clear hx512_1
                              try clear hx512_2
                              try clear hx512_3
                              try clear hx512_4
                              try clear hx512_5
                              try clear hx512_6
                              try clear hx512_7
                              try clear p2
                              try clear p5
                              try clear p508
                              try clear p510
                              try clear p512
                              try clear p6
                              try clear q5
                              try clear q508
                              try clear q510
                              try clear q512
                              obtain ⟨x6_5, rfl, HA, HK5, BK507, BK513, HB⟩ := hrel
                              cases gk with
                              | zero => exact absurd HA.out (by simp [letterbagref32_Valid.l2])
                              | succ k5 =>
                                have H := HA.out
                                clear HA
                                simp only [letterbagref32_Valid.l2] at H
                                by_cases c44 : x6_5 < x4_3
                                · rw [if_pos c44] at H
                                  have c44b0 : decide (x6_5 < x4_3) = true := decide_eq_true c44
                                  clear c44
                                  by_cases c45 : 0 ≤ x6_5
                                  · rw [if_pos c45] at H
                                    have c45b0 : decide (0 ≤ x6_5) = true := decide_eq_true c45
                                    clear c45
                                    by_cases c46 : x6_5 < (l0_1.length : Int)
                                    · rw [if_pos c46] at H
                                      have c46b0 : decide (x6_5 < (l0_1.length : Int)) = true := decide_eq_true c46
                                      clear c46
                                      by_cases c47 : ((rd_T23 l0_1 x6_5).f0) = ((rd_T23 l0_1 x4_3).f0)
                                      · rw [if_pos c47] at H
                                        have c47b0 : (((rd_T23 l0_1 x6_5).f0) == ((rd_T23 l0_1 x4_3).f0)) = true := beq_iff_eq.mpr c47
                                        have c47b1 : (((rd_T23 l0_1 x6_5).f0) != ((rd_T23 l0_1 x4_3).f0)) = false := bne_eq_false_iff_eq.mpr c47
                                        clear c47
                                        obtain rfl := Option.some.inj H
                                        have hnb48 := NB507_513.out
                                        have hnc48 := NB513_507.out
                                        have hcz49_0 : wr.cell? ⟨gb507, 0, none⟩ = some (.slice A0_0 l0_0.length c0_0) := (blk_cell BK507.out 0).trans rfl
                                        have hcz49_1 : wr.cell? ⟨gb507, 1, none⟩ = some (.slice (some ad512) l0_1.length c0_1) := (blk_cell BK507.out 1).trans rfl
                                        have hfz49_0 := blk_frozen BK507.out 0
                                        have hfz49_1 := blk_frozen BK507.out 1
                                        have p517 : 0 ≤ (x6_5 : Int) := of_decide_eq_true (by first | (with_reducible assumption) | assumption)
                                        have q517 : x6_5 < (l0_1.length : Int) := of_decide_eq_true (by first | (with_reducible assumption) | assumption)
                                        obtain ⟨ad517, e517, hx517_0, hx517_1, hx517_2, hx517_3, hx517_4, hx517_5, hx517_6, hx517_7⟩ := at_T23 HR0_1.out x6_5 p517 q517
                                        obtain rfl : ad512 = ad517 := (by injection e517)
                                        replace hx517_0 := (HB.out.cell (World.block_lt_of_cell? w _ hx517_0)).trans hx517_0
                                        replace hx517_1 := (HB.out.cell (World.block_lt_of_cell? w _ hx517_1)).trans hx517_1
                                        replace hx517_2 := (HB.out.cell (World.block_lt_of_cell? w _ hx517_2)).trans hx517_2
                                        replace hx517_3 := (HB.out.cell (World.block_lt_of_cell? w _ hx517_3)).trans hx517_3
                                        replace hx517_4 := (HB.out.cell (World.block_lt_of_cell? w _ hx517_4)).trans hx517_4
                                        replace hx517_5 := (HB.out.cell (World.block_lt_of_cell? w _ hx517_5)).trans hx517_5
                                        replace hx517_6 := (HB.out.cell (World.block_lt_of_cell? w _ hx517_6)).trans hx517_6
                                        replace hx517_7 := (HB.out.cell (World.block_lt_of_cell? w _ hx517_7)).trans hx517_7
                                        replace p517 := eq_true p517
                                        replace q517 := eq_true q517
                                        have hcz50_0 : wr.cell? ⟨gb513, 0, none⟩ = some (.int .i64 ((rd_T23 l0_1 x4_3).f0)) := (blk_cell BK513.out 0).trans rfl
                                        have hcz50_1 : wr.cell? ⟨gb513, 1, none⟩ = some (.int .i64 ((rd_T23 l0_1 x4_3).f1)) := (blk_cell BK513.out 1).trans rfl
                                        have hcz50_2 : wr.cell? ⟨gb513, 2, none⟩ = some (.int .i64 ((rd_T23 l0_1 x4_3).f2)) := (blk_cell BK513.out 2).trans rfl
                                        have hcz50_3 : wr.cell? ⟨gb513, 3, none⟩ = some (.int .i64 ((rd_T23 l0_1 x4_3).f3)) := (blk_cell BK513.out 3).trans rfl
                                        have hcz50_4 : wr.cell? ⟨gb513, 4, none⟩ = some (.int .i64 ((rd_T23 l0_1 x4_3).f4)) := (blk_cell BK513.out 4).trans rfl
                                        have hcz50_5 : wr.cell? ⟨gb513, 5, none⟩ = some (.int .i64 ((rd_T23 l0_1 x4_3).f5)) := (blk_cell BK513.out 5).trans rfl
                                        have hcz50_6 : wr.cell? ⟨gb513, 6, none⟩ = some (.int .i64 ((rd_T23 l0_1 x4_3).f6)) := (blk_cell BK513.out 6).trans rfl
                                        have hcz50_7 : wr.cell? ⟨gb513, 7, none⟩ = some (.int .u8 ((rd_T23 l0_1 x4_3).f7)) := (blk_cell BK513.out 7).trans rfl
                                        have hfz50_0 := blk_frozen BK513.out 0
                                        have hfz50_1 := blk_frozen BK513.out 1
                                        have hfz50_2 := blk_frozen BK513.out 2
                                        have hfz50_3 := blk_frozen BK513.out 3
                                        have hfz50_4 := blk_frozen BK513.out 4
                                        have hfz50_5 := blk_frozen BK513.out 5
                                        have hfz50_6 := blk_frozen BK513.out 6
                                        have hfz50_7 := blk_frozen BK513.out 7
                                        go_wp2
                                        repeat (go_quiet (fail); try go_wp2)
                                        go_ret
                                        exact ⟨by first | rfl | (simp [errW_none, errW_some] <;> rfl) | (simp [*, errW_none, errW_some] <;> rfl), by repeat (first | (with_reducible first | exact HB.out | apply below_alloc | apply pw_below_drewN | apply below_drew1 | refine below_set ?_ GE507.out | refine below_set ?_ GE513.out) | exact HB.out)⟩
                                      · rw [if_neg c47] at H
                                        have c47b0 : (((rd_T23 l0_1 x6_5).f0) == ((rd_T23 l0_1 x4_3).f0)) = false := beq_eq_false_iff_ne.mpr c47
                                        have c47b1 : (((rd_T23 l0_1 x6_5).f0) != ((rd_T23 l0_1 x4_3).f0)) = true := bne_iff_ne.mpr c47
                                        have H' := Aside0.mk H
                                        clear H
                                        have hnb51 := NB507_513.out
                                        have hnc51 := NB513_507.out
                                        have hcz52_0 : wr.cell? ⟨gb507, 0, none⟩ = some (.slice A0_0 l0_0.length c0_0) := (blk_cell BK507.out 0).trans rfl
                                        have hcz52_1 : wr.cell? ⟨gb507, 1, none⟩ = some (.slice (some ad512) l0_1.length c0_1) := (blk_cell BK507.out 1).trans rfl
                                        have hfz52_0 := blk_frozen BK507.out 0
                                        have hfz52_1 := blk_frozen BK507.out 1
                                        have p517 : 0 ≤ (x6_5 : Int) := of_decide_eq_true (by first | (with_reducible assumption) | assumption)
                                        have q517 : x6_5 < (l0_1.length : Int) := of_decide_eq_true (by first | (with_reducible assumption) | assumption)
                                        obtain ⟨ad517, e517, hx517_0, hx517_1, hx517_2, hx517_3, hx517_4, hx517_5, hx517_6, hx517_7⟩ := at_T23 HR0_1.out x6_5 p517 q517
                                        obtain rfl : ad512 = ad517 := (by injection e517)
                                        replace hx517_0 := (HB.out.cell (World.block_lt_of_cell? w _ hx517_0)).trans hx517_0
                                        replace hx517_1 := (HB.out.cell (World.block_lt_of_cell? w _ hx517_1)).trans hx517_1
                                        replace hx517_2 := (HB.out.cell (World.block_lt_of_cell? w _ hx517_2)).trans hx517_2
                                        replace hx517_3 := (HB.out.cell (World.block_lt_of_cell? w _ hx517_3)).trans hx517_3
                                        replace hx517_4 := (HB.out.cell (World.block_lt_of_cell? w _ hx517_4)).trans hx517_4
                                        replace hx517_5 := (HB.out.cell (World.block_lt_of_cell? w _ hx517_5)).trans hx517_5
                                        replace hx517_6 := (HB.out.cell (World.block_lt_of_cell? w _ hx517_6)).trans hx517_6
                                        replace hx517_7 := (HB.out.cell (World.block_lt_of_cell? w _ hx517_7)).trans hx517_7
                                        replace p517 := eq_true p517
                                        replace q517 := eq_true q517
                                        have hcz53_0 : wr.cell? ⟨gb513, 0, none⟩ = some (.int .i64 ((rd_T23 l0_1 x4_3).f0)) := (blk_cell BK513.out 0).trans rfl
                                        have hcz53_1 : wr.cell? ⟨gb513, 1, none⟩ = some (.int .i64 ((rd_T23 l0_1 x4_3).f1)) := (blk_cell BK513.out 1).trans rfl
                                        have hcz53_2 : wr.cell? ⟨gb513, 2, none⟩ = some (.int .i64 ((rd_T23 l0_1 x4_3).f2)) := (blk_cell BK513.out 2).trans rfl
                                        have hcz53_3 : wr.cell? ⟨gb513, 3, none⟩ = some (.int .i64 ((rd_T23 l0_1 x4_3).f3)) := (blk_cell BK513.out 3).trans rfl
                                        have hcz53_4 : wr.cell? ⟨gb513, 4, none⟩ = some (.int .i64 ((rd_T23 l0_1 x4_3).f4)) := (blk_cell BK513.out 4).trans rfl
                                        have hcz53_5 : wr.cell? ⟨gb513, 5, none⟩ = some (.int .i64 ((rd_T23 l0_1 x4_3).f5)) := (blk_cell BK513.out 5).trans rfl
                                        have hcz53_6 : wr.cell? ⟨gb513, 6, none⟩ = some (.int .i64 ((rd_T23 l0_1 x4_3).f6)) := (blk_cell BK513.out 6).trans rfl
                                        have hcz53_7 : wr.cell? ⟨gb513, 7, none⟩ = some (.int .u8 ((rd_T23 l0_1 x4_3).f7)) := (blk_cell BK513.out 7).trans rfl
                                        have hfz53_0 := blk_frozen BK513.out 0
                                        have hfz53_1 := blk_frozen BK513.out 1
                                        have hfz53_2 := blk_frozen BK513.out 2
                                        have hfz53_3 := blk_frozen BK513.out 3
                                        have hfz53_4 := blk_frozen BK513.out 4
                                        have hfz53_5 := blk_frozen BK513.out 5
                                        have hfz53_6 := blk_frozen BK513.out 6
                                        have hfz53_7 := blk_frozen BK513.out 7
                                        go_wp2
                                        repeat (go_quiet (fail); try go_wp2)
                                        go_roundg k5
                                        case measure => have := HJ1.out; have := HK2.out; have := HK3.out; have := HJ19.out; have := HK5.out; omega
                                        case rel => exact ⟨(wrap64 (x6_5 + 1)), (by first | rfl | (simp; done) | (simp [*]; done)), H', ⟨by have := HJ1.out; have := HK2.out; have := HK3.out; have := HJ19.out; have := HK5.out; omega⟩, ⟨by (with_reducible repeat (first | refine blk_drewN ?_ _ | refine blk_drew ?_ | refine blk_alloc ?_ _)); exact BK507.out⟩, ⟨by (with_reducible repeat (first | refine blk_drewN ?_ _ | refine blk_drew ?_ | refine blk_alloc ?_ _)); exact BK513.out⟩, ⟨by repeat (first | (with_reducible first | exact HB.out | apply below_alloc | apply pw_below_drewN | apply below_drew1 | refine below_set ?_ GE507.out | refine below_set ?_ GE513.out) | exact HB.out)⟩⟩
                                    · rw [if_neg c46] at H
                                      exact absurd H (by simp)
                                  · rw [if_neg c45] at H
                                    exact absurd H (by simp)
                                · rw [if_neg c44] at H
                                  have c44b0 : decide (x6_5 < x4_3) = false := decide_eq_false c44
                                  clear c44
                                  have H' := Aside0.mk H
                                  clear H
                                  go_wp2
                                  repeat (go_quiet (fail); try go_wp2)
                                  go_roundg k5
                                  case measure => have := HJ1.out; have := HK2.out; have := HK3.out; have := HJ19.out; have := HK5.out; omega
                                  case rel => exact ⟨(wrap64 (x4_3 + 1)), (by first | rfl | (simp; done) | (simp [*]; done)), H', ⟨by have := HJ1.out; have := HK2.out; have := HK3.out; have := HJ19.out; have := HK5.out; omega⟩, ⟨by (with_reducible repeat (first | refine blk_drewN ?_ _ | refine blk_drew ?_ | refine blk_alloc ?_ _)); exact BK507.out⟩, ⟨by repeat (first | (with_reducible first | exact HB.out | apply below_alloc | apply pw_below_drewN | apply below_drew1 | refine below_set ?_ GE507.out | refine below_set ?_ GE513.out) | exact HB.out)⟩⟩
                    · rw [if_neg c19] at H
                      exact absurd H (by simp)
                  · rw [if_neg c18] at H
                    have c18b0 : decide (x4_3 < (l0_1.length : Int)) = false := decide_eq_false c18
                    clear c18
                    obtain rfl := Option.some.inj H
                    have hcz54_0 : wr.cell? ⟨gb507, 0, none⟩ = some (.slice A0_0 l0_0.length c0_0) := (blk_cell BK507.out 0).trans rfl
                    have hcz54_1 : wr.cell? ⟨gb507, 1, none⟩ = some (.slice A0_1 l0_1.length c0_1) := (blk_cell BK507.out 1).trans rfl
                    have hfz54_0 := blk_frozen BK507.out 0
                    have hfz54_1 := blk_frozen BK507.out 1
                    go_wp2
                    repeat (go_quiet (fail); try go_wp2)
                    go_ret
                    exact ⟨by first | rfl | (simp [errW_none, errW_some] <;> rfl) | (simp [*, errW_none, errW_some] <;> rfl), by repeat (first | (with_reducible first | exact HB.out | apply below_alloc | apply pw_below_drewN | apply below_drew1 | refine below_set ?_ GE507.out) | exact HB.out)⟩

end Go.Proofs.Ytdpadeklociinaa.PA
