-- Written by a program of ours (wip/tools), by way of the print
import Derived.Test.YtdpadeklociinaaPAx0
import Derived.Test.YtdpadeklociinaaPAx15
namespace Go.Proofs.Ytdpadeklociinaa.PA
open Go.RowKit Go.Proofs.YtdpadeklociinaaW.PrintWords Go.Proofs.YtdpadeklociinaaW.PrintLast Go.Proofs.YtdpadeklociinaaW.PrintMore
attribute [local go_sem] max2_int min2_int max_two min_two max_three min_three max_four min_four   -- for this text's walks alone
set_option linter.unusedVariables false
set_option linter.unusedSimpArgs false

/-! ### letterbagref33_plant: function 88 -/
def letterbagref33_plant.l0 : Nat → Int → Int → List Int → List (S23) → Option (Int)
  | 0, _, _, _, _ => none
  | k + 1, x1, x5, x519000, x519001 => if x5 < (x519000.length : Int) then (if 0 ≤ x5 then (if (rd x519000 x5) = x1 then (some x5) else (letterbagref33_plant.l0 k x1 (wrap64 (x5 + 1)) x519000 x519001)) else (none)) else (some (-1))
def letterbagref33_plant.f (k : Nat) (l0_0 : List Int) (l0_1 : List (S23)) (a1 : Int) : Option (Int) := letterbagref33_plant.l0 k a1 0 l0_0 l0_1
set_option maxHeartbeats 8000000 in
set_option maxRecDepth 100000 in
theorem letterbagref33_plant.calls (k : Nat) (A0_0 : Option Addr) (c0_0 : Nat) (l0_0 : List Int) (A0_1 : Option Addr) (c0_1 : Nat) (l0_1 : List (S23)) (a1 : Int) (r : Int) (w : World) (hr0_0 : Kd.C (Kd.int .i64) w A0_0 l0_0.length l0_0) (hc0_0 : l0_0.length ≤ c0_0) (hr0_1 : Kd.C k23 w A0_1 l0_1.length l0_1) (hc0_1 : l0_1.length ≤ c0_1) (h : letterbagref33_plant.f k l0_0 l0_1 a1 = some r) :
    Calls Try.prog 88 #[.agg #[.slice A0_0 l0_0.length c0_0, .slice A0_1 l0_1.length c0_1], .int .i64 a1] w fun e w' => e = .returned (.int .i64 r) ∧ Below w.heap.size w w' := by
  have hu29 := Try.underlying29
  have HR0_0 := Aside0.mk hr0_0
  have HC0_0 := Aside0.mk hc0_0
  clear hr0_0 hc0_0
  have HR0_1 := Aside0.mk hr0_1
  have HC0_1 := Aside0.mk hc0_1
  clear hr0_1 hc0_1
  have HB := Aside0.mk (Below.refl w.heap.size w)
  have H : (letterbagref33_plant.l0 k a1 0 l0_0 l0_1) = some r := h
  clear h
  have H' := Aside0.mk H
  clear H
  go_enter Try.func88, Try.ntmps88
  go_wp2_with (first | ((with_reducible refine gate_dst (N := 2) rfl ?_); refine box_event ?hg (N := 2) ?hd (cs := #[.slice A0_0 l0_0.length c0_0, .slice A0_1 l0_1.length c0_1]) (t := 29) ?hr ?_; (case hd => rfl); (case hg => rfl); (case hr => first | (go_simp; done) | (go_simp; rfl)); intro gb518 hg w3 hbox hb; have n0_ := Aside0.mk (below_step (by repeat (first | (with_reducible first | exact HB.out | apply below_alloc | apply pw_below_drewN | apply below_drew1) | exact HB.out)) hb); have n1_ := Aside0.mk (hbox); have n2_ := Aside0.mk ((by rw [hg]; exact (below_size (by repeat (first | (with_reducible first | exact HB.out | apply below_alloc | apply pw_below_drewN | apply below_drew1) | exact HB.out))) : w.heap.size ≤ gb518)); have n3_ := Aside0.mk ((by rw [hg]; exact (below_size (by repeat (first | (with_reducible first | exact HB.out | apply below_alloc | apply pw_below_drewN | apply below_drew1) | exact HB.out))) : w.heap.size ≤ gb518)); clear HB; have HB := n0_; have BK518 := n1_; have GW518 := n2_; have GE518 := n3_; clear n0_ n1_ n2_ n3_; clear hb hbox hg))
  go_loopg [5] k (fun kq v5 w' => ∃ (x5_1 : Int), v5 = .int .i64 x5_1 ∧ Aside0 (letterbagref33_plant.l0 kq a1 x5_1 l0_0 l0_1 = some r) ∧ Aside0 (kq ≤ k) ∧ Aside0 (w'.heap[gb518]? = some (.cells #[(.slice A0_0 l0_0.length c0_0), (.slice A0_1 l0_1.length c0_1)] 29 (0, 0))) ∧ Aside0 (Below w.heap.size w w'))
  case atStart => exact ⟨(0), (by first | rfl | (simp; done) | (simp [*]; done)), H', ⟨Nat.le_refl _⟩, ⟨by (with_reducible repeat (first | refine blk_drewN ?_ _ | refine blk_drew ?_ | refine blk_alloc ?_ _)); exact BK518.out⟩, ⟨by repeat (first | (with_reducible first | exact HB.out | apply below_alloc | apply pw_below_drewN | apply below_drew1 | refine below_set ?_ GE518.out) | exact HB.out)⟩⟩
  case round =>
    clear H'
    try clear p2
    obtain ⟨x5_1, rfl, HA, HK1, BK518, HB⟩ := hrel
    cases gk with
    | zero => exact absurd HA.out (by simp [letterbagref33_plant.l0])
    | succ k1 =>
      have H := HA.out
      clear HA
      simp only [letterbagref33_plant.l0] at H
      by_cases c4 : x5_1 < (l0_0.length : Int)
      · rw [if_pos c4] at H
        have c4b0 : decide (x5_1 < (l0_0.length : Int)) = true := decide_eq_true c4
        clear c4
        by_cases c5 : 0 ≤ x5_1
        · rw [if_pos c5] at H
          have c5b0 : decide (0 ≤ x5_1) = true := decide_eq_true c5
          clear c5
          by_cases c6 : (rd l0_0 x5_1) = a1
          · rw [if_pos c6] at H
            have c6b0 : ((rd l0_0 x5_1) == a1) = true := beq_iff_eq.mpr c6
            have c6b1 : ((rd l0_0 x5_1) != a1) = false := bne_eq_false_iff_eq.mpr c6
            clear c6
            obtain rfl := Option.some.inj H
            have hcz7_0 : wr.cell? ⟨gb518, 0, none⟩ = some (.slice A0_0 l0_0.length c0_0) := (blk_cell BK518.out 0).trans rfl
            have hcz7_1 : wr.cell? ⟨gb518, 1, none⟩ = some (.slice A0_1 l0_1.length c0_1) := (blk_cell BK518.out 1).trans rfl
            have hfz7_0 := blk_frozen BK518.out 0
            have hfz7_1 := blk_frozen BK518.out 1
            have p519 : 0 ≤ (x5_1 : Int) := of_decide_eq_true (by first | (with_reducible assumption) | assumption)
            have q519 : x5_1 < (l0_0.length : Int) := of_decide_eq_true (by first | (with_reducible assumption) | assumption)
            obtain ⟨ad519, e519, hx519_0⟩ := Kd.at_int HR0_0.out x5_1 p519 q519
            cases e519
            replace hx519_0 := (HB.out.cell (World.block_lt_of_cell? w _ hx519_0)).trans hx519_0
            replace p519 := eq_true p519
            replace q519 := eq_true q519
            go_wp2
            go_ret
            exact ⟨by first | rfl | (simp [errW_none, errW_some] <;> rfl) | (simp [*, errW_none, errW_some] <;> rfl), by repeat (first | (with_reducible first | exact HB.out | apply below_alloc | apply pw_below_drewN | apply below_drew1 | refine below_set ?_ GE518.out) | exact HB.out)⟩
          · rw [if_neg c6] at H
            have c6b0 : ((rd l0_0 x5_1) == a1) = false := beq_eq_false_iff_ne.mpr c6
            have c6b1 : ((rd l0_0 x5_1) != a1) = true := bne_iff_ne.mpr c6
            have H' := Aside0.mk H
            clear H
            have hcz8_0 : wr.cell? ⟨gb518, 0, none⟩ = some (.slice A0_0 l0_0.length c0_0) := (blk_cell BK518.out 0).trans rfl
            have hcz8_1 : wr.cell? ⟨gb518, 1, none⟩ = some (.slice A0_1 l0_1.length c0_1) := (blk_cell BK518.out 1).trans rfl
            have hfz8_0 := blk_frozen BK518.out 0
            have hfz8_1 := blk_frozen BK518.out 1
            have p519 : 0 ≤ (x5_1 : Int) := of_decide_eq_true (by first | (with_reducible assumption) | assumption)
            have q519 : x5_1 < (l0_0.length : Int) := of_decide_eq_true (by first | (with_reducible assumption) | assumption)
            obtain ⟨ad519, e519, hx519_0⟩ := Kd.at_int HR0_0.out x5_1 p519 q519
            cases e519
            replace hx519_0 := (HB.out.cell (World.block_lt_of_cell? w _ hx519_0)).trans hx519_0
            replace p519 := eq_true p519
            replace q519 := eq_true q519
            go_wp2
            go_roundg k1
            case measure => have := HK1.out; omega
            case rel => exact ⟨(wrap64 (x5_1 + 1)), (by first | rfl | (simp; done) | (simp [*]; done)), H', ⟨by have := HK1.out; omega⟩, ⟨by (with_reducible repeat (first | refine blk_drewN ?_ _ | refine blk_drew ?_ | refine blk_alloc ?_ _)); exact BK518.out⟩, ⟨by repeat (first | (with_reducible first | exact HB.out | apply below_alloc | apply pw_below_drewN | apply below_drew1 | refine below_set ?_ GE518.out) | exact HB.out)⟩⟩
        · rw [if_neg c5] at H
          exact absurd H (by simp)
      · rw [if_neg c4] at H
        have c4b0 : decide (x5_1 < (l0_0.length : Int)) = false := decide_eq_false c4
        clear c4
        obtain rfl := Option.some.inj H
        have hcz9_0 : wr.cell? ⟨gb518, 0, none⟩ = some (.slice A0_0 l0_0.length c0_0) := (blk_cell BK518.out 0).trans rfl
        have hcz9_1 : wr.cell? ⟨gb518, 1, none⟩ = some (.slice A0_1 l0_1.length c0_1) := (blk_cell BK518.out 1).trans rfl
        have hfz9_0 := blk_frozen BK518.out 0
        have hfz9_1 := blk_frozen BK518.out 1
        go_wp2
        go_ret
        exact ⟨by first | rfl | (simp [errW_none, errW_some] <;> rfl) | (simp [*, errW_none, errW_some] <;> rfl), by repeat (first | (with_reducible first | exact HB.out | apply below_alloc | apply pw_below_drewN | apply below_drew1 | refine below_set ?_ GE518.out) | exact HB.out)⟩

/-! ### letterbagref33_check: function 67 -/
def letterbagref33_check.j0 : Nat → Bool → Option (Int)
  | 0, _ => none
  | k + 1, x32 => if x32 = true then (some 2) else (some 0)
def letterbagref33_check.f (k : Nat) (l0_0 : List Int) (l0_1 : List (S23)) (a1 : Int) (a2 : Int) (a3 : Int) : Option (Int) := (letterbagref32_Valid.f k l0_0 l0_1).bind fun t521 => (if t521 = 0 then ((letterbagref33_plant.f k l0_0 l0_1 a1).bind fun t522 => (if t522 < 0 then (letterbagref33_check.j0 k true) else ((letterbagref33_plant.f k l0_0 l0_1 a2).bind fun t523 => (if t523 < 0 then (letterbagref33_check.j0 k true) else (if a3 < 0 then (letterbagref33_check.j0 k true) else (letterbagref33_check.j0 k (decide (a3 > 1051898399)))))))) else (some t521))
set_option maxHeartbeats 8000000 in
set_option maxRecDepth 100000 in
theorem letterbagref33_check.calls (k : Nat) (A0_0 : Option Addr) (c0_0 : Nat) (l0_0 : List Int) (A0_1 : Option Addr) (c0_1 : Nat) (l0_1 : List (S23)) (a1 : Int) (a2 : Int) (a3 : Int) (r : Int) (w : World) (hr0_0 : Kd.C (Kd.int .i64) w A0_0 l0_0.length l0_0) (hc0_0 : l0_0.length ≤ c0_0) (hr0_1 : Kd.C k23 w A0_1 l0_1.length l0_1) (hc0_1 : l0_1.length ≤ c0_1) (h : letterbagref33_check.f k l0_0 l0_1 a1 a2 a3 = some r) :
    Calls Try.prog 67 #[.agg #[.slice A0_0 l0_0.length c0_0, .slice A0_1 l0_1.length c0_1], .int .i64 a1, .int .i64 a2, .int .i64 a3] w fun e w' => e = .returned (.int .i64 r) ∧ Below w.heap.size w w' := by
  have hu29 := Try.underlying29
  have HR0_0 := Aside0.mk hr0_0
  have HC0_0 := Aside0.mk hc0_0
  clear hr0_0 hc0_0
  have HR0_1 := Aside0.mk hr0_1
  have HC0_1 := Aside0.mk hc0_1
  clear hr0_1 hc0_1
  have HB := Aside0.mk (Below.refl w.heap.size w)
  have H : ((letterbagref32_Valid.f k l0_0 l0_1).bind fun t521 => (if t521 = 0 then ((letterbagref33_plant.f k l0_0 l0_1 a1).bind fun t522 => (if t522 < 0 then (letterbagref33_check.j0 k true) else ((letterbagref33_plant.f k l0_0 l0_1 a2).bind fun t523 => (if t523 < 0 then (letterbagref33_check.j0 k true) else (if a3 < 0 then (letterbagref33_check.j0 k true) else (letterbagref33_check.j0 k (decide (a3 > 1051898399)))))))) else (some t521))) = some r := h
  clear h
  replace H := Option.bind_eq_some_iff.mp H
  obtain ⟨t521, A50, H⟩ := H
  replace H : (if t521 = 0 then ((letterbagref33_plant.f k l0_0 l0_1 a1).bind fun t522 => (if t522 < 0 then (letterbagref33_check.j0 k true) else ((letterbagref33_plant.f k l0_0 l0_1 a2).bind fun t523 => (if t523 < 0 then (letterbagref33_check.j0 k true) else (if a3 < 0 then (letterbagref33_check.j0 k true) else (letterbagref33_check.j0 k (decide (a3 > 1051898399)))))))) else (some t521)) = some r := H
  have A5 := Aside0.mk A50
  clear A50
  by_cases c6 : t521 = 0
  · rw [if_pos c6] at H
    have c6b0 : (t521 == 0) = true := beq_iff_eq.mpr c6
    have c6b1 : (t521 != 0) = false := bne_eq_false_iff_eq.mpr c6
    clear c6
    have HC7 := Aside0.mk H
    clear H
    go_enter Try.func67, Try.ntmps67
    go_upto_region 4 with (first | ((with_reducible refine gate_dst (N := 4) rfl ?_); refine box_event ?hg (N := 4) ?hd (cs := #[.slice A0_0 l0_0.length c0_0, .slice A0_1 l0_1.length c0_1]) (t := 29) ?hr ?_; (case hd => rfl); (case hg => rfl); (case hr => first | (go_simp; done) | (go_simp; rfl)); intro gb520 hg w8 hbox hb; have n0_ := Aside0.mk (below_step (by repeat (first | (with_reducible first | exact HB.out | apply below_alloc | apply pw_below_drewN | apply below_drew1) | exact HB.out)) hb); have n1_ := Aside0.mk (hbox); have n2_ := Aside0.mk ((by rw [hg]; exact (below_size (by repeat (first | (with_reducible first | exact HB.out | apply below_alloc | apply pw_below_drewN | apply below_drew1) | exact HB.out))) : w.heap.size ≤ gb520)); have n3_ := Aside0.mk ((by rw [hg]; exact (below_size (by repeat (first | (with_reducible first | exact HB.out | apply below_alloc | apply pw_below_drewN | apply below_drew1) | exact HB.out))) : w.heap.size ≤ gb520)); clear HB; have HB := n0_; have BK520 := n1_; have GW520 := n2_; have GE520 := n3_; clear n0_ n1_ n2_ n3_; clear hb hbox hg; have hcz9_0 : w8.cell? ⟨gb520, 0, none⟩ = some (.slice A0_0 l0_0.length c0_0) := (blk_cell BK520.out 0).trans rfl; have hcz9_1 : w8.cell? ⟨gb520, 1, none⟩ = some (.slice A0_1 l0_1.length c0_1) := (blk_cell BK520.out 1).trans rfl; have hfz9_0 := blk_frozen BK520.out 0; have hfz9_1 := blk_frozen BK520.out 1) | ((with_reducible refine gate_callee (f := 80) rfl ?_); refine goesL_ (some 11) rfl rfl Try.func80 (by kernel_rfl) rfl #[.agg #[.slice A0_0 l0_0.length c0_0, .slice A0_1 l0_1.length c0_1]] rfl (by (try simp only [List.map_toArray, List.map_cons, List.map_nil]); first | done | rfl | (simp only [List.length_drop, List.length_take]; rfl)) ?_; (with_reducible refine (letterbagref32_Valid.calls k _ _ l0_0 _ _ l0_1 t521 _ ?side1 ?side2 ?side3 ?side4 A5.out).mono ?_); (case side1 => repeat (first | exact (Kd.C_below HR0_0.out HB.out) | (with_reducible refine Kd.C_alloc ?_ _) | (with_reducible refine Kd.C_drewN ?_ _) | (with_reducible refine Kd.C_drew ?_))); (case side2 => exact HC0_0.out); (case side3 => repeat (first | exact (Kd.C_below HR0_1.out HB.out) | (with_reducible refine Kd.C_alloc ?_ _) | (with_reducible refine Kd.C_drewN ?_ _) | (with_reducible refine Kd.C_drew ?_))); (case side4 => exact HC0_1.out); rintro e w10 ⟨rfl, hb⟩; refine ⟨_, rfl, ?_⟩; have n0_ := Aside0.mk (blk_below (g := gb520) (o := .cells #[.slice A0_0 l0_0.length c0_0, .slice A0_1 l0_1.length c0_1] 29 (0, 0)) (by (with_reducible repeat (first | refine blk_drewN ?_ _ | refine blk_drew ?_ | refine blk_alloc ?_ _)); exact BK520.out) hb); have n1_ := Aside0.mk (below_step (by repeat (first | (with_reducible first | exact HB.out | apply below_alloc | apply pw_below_drewN | apply below_drew1 | refine below_set ?_ GE520.out) | exact HB.out)) hb); clear BK520; clear HB; have BK520 := n0_; have HB := n1_; clear n0_ n1_; (try clear hb); (try clear hb2); (try clear hk); (try clear hi)))
    (try simp only [Act.put, List.setIfInBounds_toArray, List.set_cons_zero, List.set_cons_succ])
    go_cut [32] (fun v32 wc => ∃ (kq : Nat) (x32_6 : Bool), v32 = .bool x32_6 ∧ Aside0 (letterbagref33_check.j0 kq x32_6 = some r) ∧ Aside0 (kq ≤ k) ∧ Aside0 (wc.heap[gb520]? = some (.cells #[(.slice A0_0 l0_0.length c0_0), (.slice A0_1 l0_1.length c0_1)] 29 (0, 0))) ∧ Aside0 (Below w.heap.size w wc))
    case first =>
      have H := HC7.out
      clear HC7
      replace H := Option.bind_eq_some_iff.mp H
      obtain ⟨t522, A110, H⟩ := H
      replace H : (if t522 < 0 then (letterbagref33_check.j0 k true) else ((letterbagref33_plant.f k l0_0 l0_1 a2).bind fun t523 => (if t523 < 0 then (letterbagref33_check.j0 k true) else (if a3 < 0 then (letterbagref33_check.j0 k true) else (letterbagref33_check.j0 k (decide (a3 > 1051898399))))))) = some r := H
      have A11 := Aside0.mk A110
      clear A110
      by_cases c12 : t522 < 0
      · rw [if_pos c12] at H
        have c12b0 : decide (t522 < 0) = true := decide_eq_true c12
        clear c12
        (first | rw [c12b0] | (simp only [i64_w, i32_w]; rw [c12b0]) | skip)
        have H' := Aside0.mk H
        clear H
        have hcz13_0 : w10.cell? ⟨gb520, 0, none⟩ = some (.slice A0_0 l0_0.length c0_0) := (blk_cell BK520.out 0).trans rfl
        have hcz13_1 : w10.cell? ⟨gb520, 1, none⟩ = some (.slice A0_1 l0_1.length c0_1) := (blk_cell BK520.out 1).trans rfl
        have hfz13_0 := blk_frozen BK520.out 0
        have hfz13_1 := blk_frozen BK520.out 1
        go_wp2_with (first | ((with_reducible refine gate_callee (f := 88) rfl ?_); refine goesL_ (some 17) rfl rfl Try.func88 (by kernel_rfl) rfl #[.agg #[.slice A0_0 l0_0.length c0_0, .slice A0_1 l0_1.length c0_1], .int .i64 a1] rfl (by (try simp only [List.map_toArray, List.map_cons, List.map_nil]); first | done | rfl | (simp only [List.length_drop, List.length_take]; rfl)) ?_; (with_reducible refine (letterbagref33_plant.calls k _ _ l0_0 _ _ l0_1 a1 t522 _ ?side1 ?side2 ?side3 ?side4 A11.out).mono ?_); (case side1 => repeat (first | exact (Kd.C_below HR0_0.out HB.out) | (with_reducible refine Kd.C_alloc ?_ _) | (with_reducible refine Kd.C_drewN ?_ _) | (with_reducible refine Kd.C_drew ?_))); (case side2 => exact HC0_0.out); (case side3 => repeat (first | exact (Kd.C_below HR0_1.out HB.out) | (with_reducible refine Kd.C_alloc ?_ _) | (with_reducible refine Kd.C_drewN ?_ _) | (with_reducible refine Kd.C_drew ?_))); (case side4 => exact HC0_1.out); rintro e w14 ⟨rfl, hb⟩; refine ⟨_, rfl, ?_⟩; have n0_ := Aside0.mk (blk_below (g := gb520) (o := .cells #[.slice A0_0 l0_0.length c0_0, .slice A0_1 l0_1.length c0_1] 29 (0, 0)) (by (with_reducible repeat (first | refine blk_drewN ?_ _ | refine blk_drew ?_ | refine blk_alloc ?_ _)); exact BK520.out) hb); have n1_ := Aside0.mk (below_step (by repeat (first | (with_reducible first | exact HB.out | apply below_alloc | apply pw_below_drewN | apply below_drew1 | refine below_set ?_ GE520.out) | exact HB.out)) hb); clear BK520; clear HB; have BK520 := n0_; have HB := n1_; clear n0_ n1_; (try clear hb); (try clear hb2); (try clear hk); (try clear hi)))
        go_meet
        case rel => exact ⟨_, (true), (by first | rfl | (simp; done) | (simp [*]; done)), H', ⟨by first | omega | exact Nat.le_refl _⟩, ⟨by (with_reducible repeat (first | refine blk_drewN ?_ _ | refine blk_drew ?_ | refine blk_alloc ?_ _)); exact BK520.out⟩, ⟨by repeat (first | (with_reducible first | exact HB.out | apply below_alloc | apply pw_below_drewN | apply below_drew1 | refine below_set ?_ GE520.out) | exact HB.out)⟩⟩
      · rw [if_neg c12] at H
        have c12b0 : decide (t522 < 0) = false := decide_eq_false c12
        clear c12
        (first | rw [c12b0] | (simp only [i64_w, i32_w]; rw [c12b0]) | skip)
        replace H := Option.bind_eq_some_iff.mp H
        obtain ⟨t523, A150, H⟩ := H
        replace H : (if t523 < 0 then (letterbagref33_check.j0 k true) else (if a3 < 0 then (letterbagref33_check.j0 k true) else (letterbagref33_check.j0 k (decide (a3 > 1051898399))))) = some r := H
        have A15 := Aside0.mk A150
        clear A150
        by_cases c16 : t523 < 0
        · rw [if_pos c16] at H
          have c16b0 : decide (t523 < 0) = true := decide_eq_true c16
          clear c16
          have H' := Aside0.mk H
          clear H
          have hcz17_0 : w10.cell? ⟨gb520, 0, none⟩ = some (.slice A0_0 l0_0.length c0_0) := (blk_cell BK520.out 0).trans rfl
          have hcz17_1 : w10.cell? ⟨gb520, 1, none⟩ = some (.slice A0_1 l0_1.length c0_1) := (blk_cell BK520.out 1).trans rfl
          have hfz17_0 := blk_frozen BK520.out 0
          have hfz17_1 := blk_frozen BK520.out 1
          go_wp2_with (first | ((with_reducible refine gate_callee (f := 88) rfl ?_); refine goesL_ (some 17) rfl rfl Try.func88 (by kernel_rfl) rfl #[.agg #[.slice A0_0 l0_0.length c0_0, .slice A0_1 l0_1.length c0_1], .int .i64 a1] rfl (by (try simp only [List.map_toArray, List.map_cons, List.map_nil]); first | done | rfl | (simp only [List.length_drop, List.length_take]; rfl)) ?_; (with_reducible refine (letterbagref33_plant.calls k _ _ l0_0 _ _ l0_1 a1 t522 _ ?side1 ?side2 ?side3 ?side4 A11.out).mono ?_); (case side1 => repeat (first | exact (Kd.C_below HR0_0.out HB.out) | (with_reducible refine Kd.C_alloc ?_ _) | (with_reducible refine Kd.C_drewN ?_ _) | (with_reducible refine Kd.C_drew ?_))); (case side2 => exact HC0_0.out); (case side3 => repeat (first | exact (Kd.C_below HR0_1.out HB.out) | (with_reducible refine Kd.C_alloc ?_ _) | (with_reducible refine Kd.C_drewN ?_ _) | (with_reducible refine Kd.C_drew ?_))); (case side4 => exact HC0_1.out); rintro e w18 ⟨rfl, hb⟩; refine ⟨_, rfl, ?_⟩; have n0_ := Aside0.mk (blk_below (g := gb520) (o := .cells #[.slice A0_0 l0_0.length c0_0, .slice A0_1 l0_1.length c0_1] 29 (0, 0)) (by (with_reducible repeat (first | refine blk_drewN ?_ _ | refine blk_drew ?_ | refine blk_alloc ?_ _)); exact BK520.out) hb); have n1_ := Aside0.mk (below_step (by repeat (first | (with_reducible first | exact HB.out | apply below_alloc | apply pw_below_drewN | apply below_drew1 | refine below_set ?_ GE520.out) | exact HB.out)) hb); clear BK520; clear HB; have BK520 := n0_; have HB := n1_; clear n0_ n1_; (try clear hb); (try clear hb2); (try clear hk); (try clear hi); have hcz19_0 : w18.cell? ⟨gb520, 0, none⟩ = some (.slice A0_0 l0_0.length c0_0) := (blk_cell BK520.out 0).trans rfl; have hcz19_1 : w18.cell? ⟨gb520, 1, none⟩ = some (.slice A0_1 l0_1.length c0_1) := (blk_cell BK520.out 1).trans rfl; have hfz19_0 := blk_frozen BK520.out 0; have hfz19_1 := blk_frozen BK520.out 1) | (go_at_call 88; (with_reducible refine (letterbagref33_plant.calls k _ _ l0_0 _ _ l0_1 a2 t523 _ ?side1 ?side2 ?side3 ?side4 A15.out).mono ?_); (case side1 => repeat (first | exact (Kd.C_below HR0_0.out HB.out) | (with_reducible refine Kd.C_alloc ?_ _) | (with_reducible refine Kd.C_drewN ?_ _) | (with_reducible refine Kd.C_drew ?_))); (case side2 => exact HC0_0.out); (case side3 => repeat (first | exact (Kd.C_below HR0_1.out HB.out) | (with_reducible refine Kd.C_alloc ?_ _) | (with_reducible refine Kd.C_drewN ?_ _) | (with_reducible refine Kd.C_drew ?_))); (case side4 => exact HC0_1.out); rintro e w20 ⟨rfl, hb⟩; have n0_ := Aside0.mk (blk_below (g := gb520) (o := .cells #[.slice A0_0 l0_0.length c0_0, .slice A0_1 l0_1.length c0_1] 29 (0, 0)) (by (with_reducible repeat (first | refine blk_drewN ?_ _ | refine blk_drew ?_ | refine blk_alloc ?_ _)); exact BK520.out) hb); have n1_ := Aside0.mk (below_step (by repeat (first | (with_reducible first | exact HB.out | apply below_alloc | apply pw_below_drewN | apply below_drew1 | refine below_set ?_ GE520.out) | exact HB.out)) hb); clear BK520; clear HB; have BK520 := n0_; have HB := n1_; clear n0_ n1_; (try clear hb); (try clear hb2); (try clear hk); (try clear hi)))
          go_meet
          case rel => exact ⟨_, (true), (by first | rfl | (simp; done) | (simp [*]; done)), H', ⟨by first | omega | exact Nat.le_refl _⟩, ⟨by (with_reducible repeat (first | refine blk_drewN ?_ _ | refine blk_drew ?_ | refine blk_alloc ?_ _)); exact BK520.out⟩, ⟨by repeat (first | (with_reducible first | exact HB.out | apply below_alloc | apply pw_below_drewN | apply below_drew1 | refine below_set ?_ GE520.out) | exact HB.out)⟩⟩
        · rw [if_neg c16] at H
          have c16b0 : decide (t523 < 0) = false := decide_eq_false c16
          clear c16
          by_cases c21 : a3 < 0
          · rw [if_pos c21] at H
            have c21b0 : decide (a3 < 0) = true := decide_eq_true c21
            clear c21
            have H' := Aside0.mk H
            clear H
            have hcz22_0 : w10.cell? ⟨gb520, 0, none⟩ = some (.slice A0_0 l0_0.length c0_0) := (blk_cell BK520.out 0).trans rfl
            have hcz22_1 : w10.cell? ⟨gb520, 1, none⟩ = some (.slice A0_1 l0_1.length c0_1) := (blk_cell BK520.out 1).trans rfl
            have hfz22_0 := blk_frozen BK520.out 0
            have hfz22_1 := blk_frozen BK520.out 1
            go_wp2_with (first | ((with_reducible refine gate_callee (f := 88) rfl ?_); refine goesL_ (some 17) rfl rfl Try.func88 (by kernel_rfl) rfl #[.agg #[.slice A0_0 l0_0.length c0_0, .slice A0_1 l0_1.length c0_1], .int .i64 a1] rfl (by (try simp only [List.map_toArray, List.map_cons, List.map_nil]); first | done | rfl | (simp only [List.length_drop, List.length_take]; rfl)) ?_; (with_reducible refine (letterbagref33_plant.calls k _ _ l0_0 _ _ l0_1 a1 t522 _ ?side1 ?side2 ?side3 ?side4 A11.out).mono ?_); (case side1 => repeat (first | exact (Kd.C_below HR0_0.out HB.out) | (with_reducible refine Kd.C_alloc ?_ _) | (with_reducible refine Kd.C_drewN ?_ _) | (with_reducible refine Kd.C_drew ?_))); (case side2 => exact HC0_0.out); (case side3 => repeat (first | exact (Kd.C_below HR0_1.out HB.out) | (with_reducible refine Kd.C_alloc ?_ _) | (with_reducible refine Kd.C_drewN ?_ _) | (with_reducible refine Kd.C_drew ?_))); (case side4 => exact HC0_1.out); rintro e w23 ⟨rfl, hb⟩; refine ⟨_, rfl, ?_⟩; have n0_ := Aside0.mk (blk_below (g := gb520) (o := .cells #[.slice A0_0 l0_0.length c0_0, .slice A0_1 l0_1.length c0_1] 29 (0, 0)) (by (with_reducible repeat (first | refine blk_drewN ?_ _ | refine blk_drew ?_ | refine blk_alloc ?_ _)); exact BK520.out) hb); have n1_ := Aside0.mk (below_step (by repeat (first | (with_reducible first | exact HB.out | apply below_alloc | apply pw_below_drewN | apply below_drew1 | refine below_set ?_ GE520.out) | exact HB.out)) hb); clear BK520; clear HB; have BK520 := n0_; have HB := n1_; clear n0_ n1_; (try clear hb); (try clear hb2); (try clear hk); (try clear hi); have hcz24_0 : w23.cell? ⟨gb520, 0, none⟩ = some (.slice A0_0 l0_0.length c0_0) := (blk_cell BK520.out 0).trans rfl; have hcz24_1 : w23.cell? ⟨gb520, 1, none⟩ = some (.slice A0_1 l0_1.length c0_1) := (blk_cell BK520.out 1).trans rfl; have hfz24_0 := blk_frozen BK520.out 0; have hfz24_1 := blk_frozen BK520.out 1) | (go_at_call 88; (with_reducible refine (letterbagref33_plant.calls k _ _ l0_0 _ _ l0_1 a2 t523 _ ?side1 ?side2 ?side3 ?side4 A15.out).mono ?_); (case side1 => repeat (first | exact (Kd.C_below HR0_0.out HB.out) | (with_reducible refine Kd.C_alloc ?_ _) | (with_reducible refine Kd.C_drewN ?_ _) | (with_reducible refine Kd.C_drew ?_))); (case side2 => exact HC0_0.out); (case side3 => repeat (first | exact (Kd.C_below HR0_1.out HB.out) | (with_reducible refine Kd.C_alloc ?_ _) | (with_reducible refine Kd.C_drewN ?_ _) | (with_reducible refine Kd.C_drew ?_))); (case side4 => exact HC0_1.out); rintro e w25 ⟨rfl, hb⟩; have n0_ := Aside0.mk (blk_below (g := gb520) (o := .cells #[.slice A0_0 l0_0.length c0_0, .slice A0_1 l0_1.length c0_1] 29 (0, 0)) (by (with_reducible repeat (first | refine blk_drewN ?_ _ | refine blk_drew ?_ | refine blk_alloc ?_ _)); exact BK520.out) hb); have n1_ := Aside0.mk (below_step (by repeat (first | (with_reducible first | exact HB.out | apply below_alloc | apply pw_below_drewN | apply below_drew1 | refine below_set ?_ GE520.out) | exact HB.out)) hb); clear BK520; clear HB; have BK520 := n0_; have HB := n1_; clear n0_ n1_; (try clear hb); (try clear hb2); (try clear hk); (try clear hi)))
            go_meet
            case rel => exact ⟨_, (true), (by first | rfl | (simp; done) | (simp [*]; done)), H', ⟨by first | omega | exact Nat.le_refl _⟩, ⟨by (with_reducible repeat (first | refine blk_drewN ?_ _ | refine blk_drew ?_ | refine blk_alloc ?_ _)); exact BK520.out⟩, ⟨by repeat (first | (with_reducible first | exact HB.out | apply below_alloc | apply pw_below_drewN | apply below_drew1 | refine below_set ?_ GE520.out) | exact HB.out)⟩⟩
          · rw [if_neg c21] at H
            have c21b0 : decide (a3 < 0) = false := decide_eq_false c21
            clear c21
            have H' := Aside0.mk H
            clear H
            have hcz26_0 : w10.cell? ⟨gb520, 0, none⟩ = some (.slice A0_0 l0_0.length c0_0) := (blk_cell BK520.out 0).trans rfl
            have hcz26_1 : w10.cell? ⟨gb520, 1, none⟩ = some (.slice A0_1 l0_1.length c0_1) := (blk_cell BK520.out 1).trans rfl
            have hfz26_0 := blk_frozen BK520.out 0
            have hfz26_1 := blk_frozen BK520.out 1
            go_wp2_with (first | ((with_reducible refine gate_callee (f := 88) rfl ?_); refine goesL_ (some 17) rfl rfl Try.func88 (by kernel_rfl) rfl #[.agg #[.slice A0_0 l0_0.length c0_0, .slice A0_1 l0_1.length c0_1], .int .i64 a1] rfl (by (try simp only [List.map_toArray, List.map_cons, List.map_nil]); first | done | rfl | (simp only [List.length_drop, List.length_take]; rfl)) ?_; (with_reducible refine (letterbagref33_plant.calls k _ _ l0_0 _ _ l0_1 a1 t522 _ ?side1 ?side2 ?side3 ?side4 A11.out).mono ?_); (case side1 => repeat (first | exact (Kd.C_below HR0_0.out HB.out) | (with_reducible refine Kd.C_alloc ?_ _) | (with_reducible refine Kd.C_drewN ?_ _) | (with_reducible refine Kd.C_drew ?_))); (case side2 => exact HC0_0.out); (case side3 => repeat (first | exact (Kd.C_below HR0_1.out HB.out) | (with_reducible refine Kd.C_alloc ?_ _) | (with_reducible refine Kd.C_drewN ?_ _) | (with_reducible refine Kd.C_drew ?_))); (case side4 => exact HC0_1.out); rintro e w27 ⟨rfl, hb⟩; refine ⟨_, rfl, ?_⟩; have n0_ := Aside0.mk (blk_below (g := gb520) (o := .cells #[.slice A0_0 l0_0.length c0_0, .slice A0_1 l0_1.length c0_1] 29 (0, 0)) (by (with_reducible repeat (first | refine blk_drewN ?_ _ | refine blk_drew ?_ | refine blk_alloc ?_ _)); exact BK520.out) hb); have n1_ := Aside0.mk (below_step (by repeat (first | (with_reducible first | exact HB.out | apply below_alloc | apply pw_below_drewN | apply below_drew1 | refine below_set ?_ GE520.out) | exact HB.out)) hb); clear BK520; clear HB; have BK520 := n0_; have HB := n1_; clear n0_ n1_; (try clear hb); (try clear hb2); (try clear hk); (try clear hi); have hcz28_0 : w27.cell? ⟨gb520, 0, none⟩ = some (.slice A0_0 l0_0.length c0_0) := (blk_cell BK520.out 0).trans rfl; have hcz28_1 : w27.cell? ⟨gb520, 1, none⟩ = some (.slice A0_1 l0_1.length c0_1) := (blk_cell BK520.out 1).trans rfl; have hfz28_0 := blk_frozen BK520.out 0; have hfz28_1 := blk_frozen BK520.out 1) | (go_at_call 88; (with_reducible refine (letterbagref33_plant.calls k _ _ l0_0 _ _ l0_1 a2 t523 _ ?side1 ?side2 ?side3 ?side4 A15.out).mono ?_); (case side1 => repeat (first | exact (Kd.C_below HR0_0.out HB.out) | (with_reducible refine Kd.C_alloc ?_ _) | (with_reducible refine Kd.C_drewN ?_ _) | (with_reducible refine Kd.C_drew ?_))); (case side2 => exact HC0_0.out); (case side3 => repeat (first | exact (Kd.C_below HR0_1.out HB.out) | (with_reducible refine Kd.C_alloc ?_ _) | (with_reducible refine Kd.C_drewN ?_ _) | (with_reducible refine Kd.C_drew ?_))); (case side4 => exact HC0_1.out); rintro e w29 ⟨rfl, hb⟩; have n0_ := Aside0.mk (blk_below (g := gb520) (o := .cells #[.slice A0_0 l0_0.length c0_0, .slice A0_1 l0_1.length c0_1] 29 (0, 0)) (by (with_reducible repeat (first | refine blk_drewN ?_ _ | refine blk_drew ?_ | refine blk_alloc ?_ _)); exact BK520.out) hb); have n1_ := Aside0.mk (below_step (by repeat (first | (with_reducible first | exact HB.out | apply below_alloc | apply pw_below_drewN | apply below_drew1 | refine below_set ?_ GE520.out) | exact HB.out)) hb); clear BK520; clear HB; have BK520 := n0_; have HB := n1_; clear n0_ n1_; (try clear hb); (try clear hb2); (try clear hk); (try clear hi)))
            go_meet
            case rel => exact ⟨_, (decide (a3 > 1051898399)), (by first | rfl | (simp; done) | (simp [*]; done)), H', ⟨by first | omega | exact Nat.le_refl _⟩, ⟨by (with_reducible repeat (first | refine blk_drewN ?_ _ | refine blk_drew ?_ | refine blk_alloc ?_ _)); exact BK520.out⟩, ⟨by repeat (first | (with_reducible first | exact HB.out | apply below_alloc | apply pw_below_drewN | apply below_drew1 | refine below_set ?_ GE520.out) | exact HB.out)⟩⟩
    case rest =>
      clear HC7
      try clear c1
      try clear c2
      try clear p2
      try clear c6
      try clear c6b0
      try clear c6b1
      try clear c8
      try clear c12
      try clear c12b0
      try clear c16
      try clear c16b0
      try clear c21
      try clear c21b0
      try clear hcz13_0
      try clear hcz13_1
      try clear hcz17_0
      try clear hcz17_1
      try clear hcz19_0
      try clear hcz19_1
      try clear hcz22_0
      try clear hcz22_1
      try clear hcz24_0
      try clear hcz24_1
      try clear hcz26_0
      try clear hcz26_1
      try clear hcz28_0
      try clear hcz28_1
      try clear hcz9_0
      try clear hcz9_1
      try clear hfz13_0
      try clear hfz13_1
      try clear hfz17_0
      try clear hfz17_1
      try clear hfz19_0
      try clear hfz19_1
      try clear hfz22_0
      try clear hfz22_1
      try clear hfz24_0
      try clear hfz24_1
      try clear hfz26_0
      try clear hfz26_1
      try clear hfz28_0
      try clear hfz28_1
      try clear hfz9_0
      try clear hfz9_1
      obtain ⟨kq, x32_6, rfl, HA, HJ6, BK520, HB⟩ := hcut
      cases kq with
      | zero => exact absurd HA.out (by simp [letterbagref33_check.j0])
      | succ kj6 =>
        have H := HA.out
        clear HA
        simp only [letterbagref33_check.j0] at H
        by_cases c30 : x32_6 = true
        · subst c30
          have H1 : (some 2) = some r := by rw [if_pos rfl] at H; exact H
          clear H
          have H := H1
          clear H1
          obtain rfl := Option.some.inj H
          go_wp2
          go_ret
          exact ⟨by first | rfl | (simp [errW_none, errW_some] <;> rfl) | (simp [*, errW_none, errW_some] <;> rfl), by repeat (first | (with_reducible first | exact HB.out | apply below_alloc | apply pw_below_drewN | apply below_drew1 | refine below_set ?_ GE520.out) | exact HB.out)⟩
        · replace c30 := Bool.eq_false_iff.mpr c30
          subst c30
          have H1 : (some 0) = some r := by rw [if_neg (show ¬ (false = true) by decide)] at H; exact H
          clear H
          have H := H1
          clear H1
          obtain rfl := Option.some.inj H
          go_wp2
          go_ret
          exact ⟨by first | rfl | (simp [errW_none, errW_some] <;> rfl) | (simp [*, errW_none, errW_some] <;> rfl), by repeat (first | (with_reducible first | exact HB.out | apply below_alloc | apply pw_below_drewN | apply below_drew1 | refine below_set ?_ GE520.out) | exact HB.out)⟩
  · rw [if_neg c6] at H
    have c6b0 : (t521 == 0) = false := beq_eq_false_iff_ne.mpr c6
    have c6b1 : (t521 != 0) = true := bne_iff_ne.mpr c6
    obtain rfl := Option.some.inj H
    go_enter Try.func67, Try.ntmps67
    go_wp2_with (first | ((with_reducible refine gate_dst (N := 4) rfl ?_); refine box_event ?hg (N := 4) ?hd (cs := #[.slice A0_0 l0_0.length c0_0, .slice A0_1 l0_1.length c0_1]) (t := 29) ?hr ?_; (case hd => rfl); (case hg => rfl); (case hr => first | (go_simp; done) | (go_simp; rfl)); intro gb520 hg w31 hbox hb; have n0_ := Aside0.mk (below_step (by repeat (first | (with_reducible first | exact HB.out | apply below_alloc | apply pw_below_drewN | apply below_drew1) | exact HB.out)) hb); have n1_ := Aside0.mk (hbox); have n2_ := Aside0.mk ((by rw [hg]; exact (below_size (by repeat (first | (with_reducible first | exact HB.out | apply below_alloc | apply pw_below_drewN | apply below_drew1) | exact HB.out))) : w.heap.size ≤ gb520)); have n3_ := Aside0.mk ((by rw [hg]; exact (below_size (by repeat (first | (with_reducible first | exact HB.out | apply below_alloc | apply pw_below_drewN | apply below_drew1) | exact HB.out))) : w.heap.size ≤ gb520)); clear HB; have HB := n0_; have BK520 := n1_; have GW520 := n2_; have GE520 := n3_; clear n0_ n1_ n2_ n3_; clear hb hbox hg; have hcz32_0 : w31.cell? ⟨gb520, 0, none⟩ = some (.slice A0_0 l0_0.length c0_0) := (blk_cell BK520.out 0).trans rfl; have hcz32_1 : w31.cell? ⟨gb520, 1, none⟩ = some (.slice A0_1 l0_1.length c0_1) := (blk_cell BK520.out 1).trans rfl; have hfz32_0 := blk_frozen BK520.out 0; have hfz32_1 := blk_frozen BK520.out 1) | ((with_reducible refine gate_callee (f := 80) rfl ?_); refine goesL_ (some 11) rfl rfl Try.func80 (by kernel_rfl) rfl #[.agg #[.slice A0_0 l0_0.length c0_0, .slice A0_1 l0_1.length c0_1]] rfl (by (try simp only [List.map_toArray, List.map_cons, List.map_nil]); first | done | rfl | (simp only [List.length_drop, List.length_take]; rfl)) ?_; (with_reducible refine (letterbagref32_Valid.calls k _ _ l0_0 _ _ l0_1 t521 _ ?side1 ?side2 ?side3 ?side4 A5.out).mono ?_); (case side1 => repeat (first | exact (Kd.C_below HR0_0.out HB.out) | (with_reducible refine Kd.C_alloc ?_ _) | (with_reducible refine Kd.C_drewN ?_ _) | (with_reducible refine Kd.C_drew ?_))); (case side2 => exact HC0_0.out); (case side3 => repeat (first | exact (Kd.C_below HR0_1.out HB.out) | (with_reducible refine Kd.C_alloc ?_ _) | (with_reducible refine Kd.C_drewN ?_ _) | (with_reducible refine Kd.C_drew ?_))); (case side4 => exact HC0_1.out); rintro e w33 ⟨rfl, hb⟩; refine ⟨_, rfl, ?_⟩; have n0_ := Aside0.mk (blk_below (g := gb520) (o := .cells #[.slice A0_0 l0_0.length c0_0, .slice A0_1 l0_1.length c0_1] 29 (0, 0)) (by (with_reducible repeat (first | refine blk_drewN ?_ _ | refine blk_drew ?_ | refine blk_alloc ?_ _)); exact BK520.out) hb); have n1_ := Aside0.mk (below_step (by repeat (first | (with_reducible first | exact HB.out | apply below_alloc | apply pw_below_drewN | apply below_drew1 | refine below_set ?_ GE520.out) | exact HB.out)) hb); clear BK520; clear HB; have BK520 := n0_; have HB := n1_; clear n0_ n1_; (try clear hb); (try clear hb2); (try clear hk); (try clear hi)))
    go_ret
    exact ⟨by first | rfl | (simp [errW_none, errW_some] <;> rfl) | (simp [*, errW_none, errW_some] <;> rfl), by repeat (first | (with_reducible first | exact HB.out | apply below_alloc | apply pw_below_drewN | apply below_drew1 | refine below_set ?_ GE520.out) | exact HB.out)⟩

/-! ### letterbagref32_Find: function 68 -/
def letterbagref32_Find.l0 : Nat → Int → Int → List Int → List (S23) → Option (Int × Int × Int × Int × Int × Int × Int × Int × Bool)
  | 0, _, _, _, _ => none
  | k + 1, x1, x6, x525000, x525001 => if x6 < (x525001.length : Int) then (if 0 ≤ x6 then (if ((rd_T23 x525001 x6).f0) = x1 then (some ((rd_T23 x525001 x6).f0, (rd_T23 x525001 x6).f1, (rd_T23 x525001 x6).f2, (rd_T23 x525001 x6).f3, (rd_T23 x525001 x6).f4, (rd_T23 x525001 x6).f5, (rd_T23 x525001 x6).f6, (rd_T23 x525001 x6).f7, true)) else (letterbagref32_Find.l0 k x1 (wrap64 (x6 + 1)) x525000 x525001)) else (none)) else (some (0, 0, 0, 0, 0, 0, 0, 0, false))
def letterbagref32_Find.f (k : Nat) (l0_0 : List Int) (l0_1 : List (S23)) (a1 : Int) : Option (Int × Int × Int × Int × Int × Int × Int × Int × Bool) := letterbagref32_Find.l0 k a1 0 l0_0 l0_1
set_option maxHeartbeats 8000000 in
set_option maxRecDepth 100000 in
theorem letterbagref32_Find.calls (k : Nat) (A0_0 : Option Addr) (c0_0 : Nat) (l0_0 : List Int) (A0_1 : Option Addr) (c0_1 : Nat) (l0_1 : List (S23)) (a1 : Int) (r1 : Int) (r2 : Int) (r3 : Int) (r4 : Int) (r5 : Int) (r6 : Int) (r7 : Int) (r8 : Int) (r9 : Bool) (w : World) (hr0_0 : Kd.C (Kd.int .i64) w A0_0 l0_0.length l0_0) (hc0_0 : l0_0.length ≤ c0_0) (hr0_1 : Kd.C k23 w A0_1 l0_1.length l0_1) (hc0_1 : l0_1.length ≤ c0_1) (h : letterbagref32_Find.f k l0_0 l0_1 a1 = some (r1, r2, r3, r4, r5, r6, r7, r8, r9)) :
    Calls Try.prog 68 #[.agg #[.slice A0_0 l0_0.length c0_0, .slice A0_1 l0_1.length c0_1], .int .i64 a1] w fun e w' => e = .returned (.tuple #[.agg #[.int .i64 r1, .int .i64 r2, .int .i64 r3, .int .i64 r4, .int .i64 r5, .int .i64 r6, .int .i64 r7, .int .u8 r8], .bool r9]) ∧ Below w.heap.size w w' := by
  have hu29 := Try.underlying29
  have hu23 := Try.underlying23
  have HR0_0 := Aside0.mk hr0_0
  have HC0_0 := Aside0.mk hc0_0
  clear hr0_0 hc0_0
  have HR0_1 := Aside0.mk hr0_1
  have HC0_1 := Aside0.mk hc0_1
  clear hr0_1 hc0_1
  have HB := Aside0.mk (Below.refl w.heap.size w)
  have H : (letterbagref32_Find.l0 k a1 0 l0_0 l0_1) = some (r1, r2, r3, r4, r5, r6, r7, r8, r9) := h
  clear h
  have H' := Aside0.mk H
  clear H
  go_enter Try.func68, Try.ntmps68
  go_wp2_with (first | ((with_reducible refine gate_dst (N := 2) rfl ?_); refine box_event ?hg (N := 2) ?hd (cs := #[.slice A0_0 l0_0.length c0_0, .slice A0_1 l0_1.length c0_1]) (t := 29) ?hr ?_; (case hd => rfl); (case hg => rfl); (case hr => first | (go_simp; done) | (go_simp; rfl)); intro gb524 hg w3 hbox hb; have n0_ := Aside0.mk (below_step (by repeat (first | (with_reducible first | exact HB.out | apply below_alloc | apply pw_below_drewN | apply below_drew1) | exact HB.out)) hb); have n1_ := Aside0.mk (hbox); have n2_ := Aside0.mk ((by rw [hg]; exact (below_size (by repeat (first | (with_reducible first | exact HB.out | apply below_alloc | apply pw_below_drewN | apply below_drew1) | exact HB.out))) : w.heap.size ≤ gb524)); have n3_ := Aside0.mk ((by rw [hg]; exact (below_size (by repeat (first | (with_reducible first | exact HB.out | apply below_alloc | apply pw_below_drewN | apply below_drew1) | exact HB.out))) : w.heap.size ≤ gb524)); clear HB; have HB := n0_; have BK524 := n1_; have GW524 := n2_; have GE524 := n3_; clear n0_ n1_ n2_ n3_; clear hb hbox hg) | ((with_reducible refine gate_dst (N := 4) rfl ?_); refine box_event ?hg (N := 4) ?hd (cs := #[.int .i64 0, .int .i64 0, .int .i64 0, .int .i64 0, .int .i64 0, .int .i64 0, .int .i64 0, .int .u8 0]) (t := 23) ?hr ?_; (case hd => rfl); (case hg => rfl); (case hr => first | (go_simp; done) | (go_simp; rfl)); intro gb525 hg w4 hbox hb; have n0_ := Aside0.mk (blk_below (g := gb524) (o := .cells #[.slice A0_0 l0_0.length c0_0, .slice A0_1 l0_1.length c0_1] 29 (0, 0)) (by (with_reducible repeat (first | refine blk_drewN ?_ _ | refine blk_drew ?_ | refine blk_alloc ?_ _)); exact BK524.out) hb); have n1_ := Aside0.mk (below_step (by repeat (first | (with_reducible first | exact HB.out | apply below_alloc | apply pw_below_drewN | apply below_drew1 | refine below_set ?_ GE524.out) | exact HB.out)) hb); have n2_ := Aside0.mk (hbox); have n3_ := Aside0.mk ((by rw [hg]; exact (below_size (by repeat (first | (with_reducible first | exact HB.out | apply below_alloc | apply pw_below_drewN | apply below_drew1 | refine below_set ?_ GE524.out) | exact HB.out))) : w.heap.size ≤ gb525)); have n4_ := Aside0.mk ((by rw [hg]; exact (below_size (by repeat (first | (with_reducible first | exact HB.out | apply below_alloc | apply pw_below_drewN | apply below_drew1 | refine below_set ?_ GE524.out) | exact HB.out))) : w.heap.size ≤ gb525)); have n5_ := Aside0.mk ((by rw [hg]; exact Nat.ne_of_lt (blk_lt (g := gb524) (o := .cells #[.slice A0_0 l0_0.length c0_0, .slice A0_1 l0_1.length c0_1] 29 (0, 0)) (by (with_reducible repeat (first | refine blk_drewN ?_ _ | refine blk_drew ?_ | refine blk_alloc ?_ _)); exact BK524.out)) : gb524 ≠ gb525)); have n6_ := Aside0.mk ((by rw [hg]; exact Nat.ne_of_gt (blk_lt (g := gb524) (o := .cells #[.slice A0_0 l0_0.length c0_0, .slice A0_1 l0_1.length c0_1] 29 (0, 0)) (by (with_reducible repeat (first | refine blk_drewN ?_ _ | refine blk_drew ?_ | refine blk_alloc ?_ _)); exact BK524.out)) : gb525 ≠ gb524)); clear BK524; clear HB; have BK524 := n0_; have HB := n1_; have BK525 := n2_; have GW525 := n3_; have GE525 := n4_; have NB524_525 := n5_; have NB525_524 := n6_; clear n0_ n1_ n2_ n3_ n4_ n5_ n6_; clear hb hbox hg))
  go_loopg [6] k (fun kq v6 w' => ∃ (x6_1 : Int) (x526000_1 : Int) (x526001_1 : Int) (x526002_1 : Int) (x526003_1 : Int) (x526004_1 : Int) (x526005_1 : Int) (x526006_1 : Int) (x526007_1 : Int), v6 = .int .i64 x6_1 ∧ Aside0 (letterbagref32_Find.l0 kq a1 x6_1 l0_0 l0_1 = some (r1, r2, r3, r4, r5, r6, r7, r8, r9)) ∧ Aside0 (kq ≤ k) ∧ Aside0 (w'.heap[gb524]? = some (.cells #[(.slice A0_0 l0_0.length c0_0), (.slice A0_1 l0_1.length c0_1)] 29 (0, 0))) ∧ Aside0 (w'.heap[gb525]? = some (.cells #[.int .i64 x526000_1, .int .i64 x526001_1, .int .i64 x526002_1, .int .i64 x526003_1, .int .i64 x526004_1, .int .i64 x526005_1, .int .i64 x526006_1, .int .u8 x526007_1] 23 (0, 0))) ∧ Aside0 (Below w.heap.size w w'))
  case atStart => exact ⟨(0), (0), (0), (0), (0), (0), (0), (0), (0), (by first | rfl | (simp; done) | (simp [*]; done)), H', ⟨Nat.le_refl _⟩, ⟨by (with_reducible repeat (first | refine blk_drewN ?_ _ | refine blk_drew ?_ | refine blk_alloc ?_ _)); exact BK524.out⟩, ⟨by (with_reducible repeat (first | refine blk_drewN ?_ _ | refine blk_drew ?_ | refine blk_alloc ?_ _)); exact BK525.out⟩, ⟨by repeat (first | (with_reducible first | exact HB.out | apply below_alloc | apply pw_below_drewN | apply below_drew1 | refine below_set ?_ GE524.out | refine below_set ?_ GE525.out) | exact HB.out)⟩⟩
  case round =>
    clear H'
    try clear p2
    obtain ⟨x6_1, x526000_1, x526001_1, x526002_1, x526003_1, x526004_1, x526005_1, x526006_1, x526007_1, rfl, HA, HK1, BK524, BK525, HB⟩ := hrel
    cases gk with
    | zero => exact absurd HA.out (by simp [letterbagref32_Find.l0])
    | succ k1 =>
      have H := HA.out
      clear HA
      simp only [letterbagref32_Find.l0] at H
      by_cases c5 : x6_1 < (l0_1.length : Int)
      · rw [if_pos c5] at H
        have c5b0 : decide (x6_1 < (l0_1.length : Int)) = true := decide_eq_true c5
        clear c5
        by_cases c6 : 0 ≤ x6_1
        · rw [if_pos c6] at H
          have c6b0 : decide (0 ≤ x6_1) = true := decide_eq_true c6
          clear c6
          by_cases c7 : ((rd_T23 l0_1 x6_1).f0) = a1
          · rw [if_pos c7] at H
            have c7b0 : (((rd_T23 l0_1 x6_1).f0) == a1) = true := beq_iff_eq.mpr c7
            have c7b1 : (((rd_T23 l0_1 x6_1).f0) != a1) = false := bne_eq_false_iff_eq.mpr c7
            clear c7
            simp only [Option.some.injEq, Prod.mk.injEq] at H
            obtain ⟨rfl, rfl, rfl, rfl, rfl, rfl, rfl, rfl, rfl⟩ := H
            have hnb8 := NB524_525.out
            have hnc8 := NB525_524.out
            have hcz9_0 : wr.cell? ⟨gb524, 0, none⟩ = some (.slice A0_0 l0_0.length c0_0) := (blk_cell BK524.out 0).trans rfl
            have hcz9_1 : wr.cell? ⟨gb524, 1, none⟩ = some (.slice A0_1 l0_1.length c0_1) := (blk_cell BK524.out 1).trans rfl
            have hfz9_0 := blk_frozen BK524.out 0
            have hfz9_1 := blk_frozen BK524.out 1
            have p526 : 0 ≤ (x6_1 : Int) := of_decide_eq_true (by first | (with_reducible assumption) | assumption)
            have q526 : x6_1 < (l0_1.length : Int) := of_decide_eq_true (by first | (with_reducible assumption) | assumption)
            obtain ⟨ad526, e526, hx526_0, hx526_1, hx526_2, hx526_3, hx526_4, hx526_5, hx526_6, hx526_7⟩ := at_T23 HR0_1.out x6_1 p526 q526
            cases e526
            replace hx526_0 := (HB.out.cell (World.block_lt_of_cell? w _ hx526_0)).trans hx526_0
            replace hx526_1 := (HB.out.cell (World.block_lt_of_cell? w _ hx526_1)).trans hx526_1
            replace hx526_2 := (HB.out.cell (World.block_lt_of_cell? w _ hx526_2)).trans hx526_2
            replace hx526_3 := (HB.out.cell (World.block_lt_of_cell? w _ hx526_3)).trans hx526_3
            replace hx526_4 := (HB.out.cell (World.block_lt_of_cell? w _ hx526_4)).trans hx526_4
            replace hx526_5 := (HB.out.cell (World.block_lt_of_cell? w _ hx526_5)).trans hx526_5
            replace hx526_6 := (HB.out.cell (World.block_lt_of_cell? w _ hx526_6)).trans hx526_6
            replace hx526_7 := (HB.out.cell (World.block_lt_of_cell? w _ hx526_7)).trans hx526_7
            replace p526 := eq_true p526
            replace q526 := eq_true q526
            have p527 : 0 ≤ (x6_1 : Int) := of_decide_eq_true (by first | (with_reducible assumption) | assumption)
            have q527 : x6_1 < (l0_1.length : Int) := of_decide_eq_true (by first | (with_reducible assumption) | assumption)
            obtain ⟨ad527, e527, hx527_0, hx527_1, hx527_2, hx527_3, hx527_4, hx527_5, hx527_6, hx527_7⟩ := at_T23 HR0_1.out x6_1 p527 q527
            obtain rfl : ad526 = ad527 := (by injection e527)
            replace hx527_0 := (HB.out.cell (World.block_lt_of_cell? w _ hx527_0)).trans hx527_0
            replace hx527_1 := (HB.out.cell (World.block_lt_of_cell? w _ hx527_1)).trans hx527_1
            replace hx527_2 := (HB.out.cell (World.block_lt_of_cell? w _ hx527_2)).trans hx527_2
            replace hx527_3 := (HB.out.cell (World.block_lt_of_cell? w _ hx527_3)).trans hx527_3
            replace hx527_4 := (HB.out.cell (World.block_lt_of_cell? w _ hx527_4)).trans hx527_4
            replace hx527_5 := (HB.out.cell (World.block_lt_of_cell? w _ hx527_5)).trans hx527_5
            replace hx527_6 := (HB.out.cell (World.block_lt_of_cell? w _ hx527_6)).trans hx527_6
            replace hx527_7 := (HB.out.cell (World.block_lt_of_cell? w _ hx527_7)).trans hx527_7
            replace p527 := eq_true p527
            replace q527 := eq_true q527
            have hcz10_0 : wr.cell? ⟨gb525, 0, none⟩ = some (.int .i64 x526000_1) := (blk_cell BK525.out 0).trans rfl
            have hcz10_1 : wr.cell? ⟨gb525, 1, none⟩ = some (.int .i64 x526001_1) := (blk_cell BK525.out 1).trans rfl
            have hcz10_2 : wr.cell? ⟨gb525, 2, none⟩ = some (.int .i64 x526002_1) := (blk_cell BK525.out 2).trans rfl
            have hcz10_3 : wr.cell? ⟨gb525, 3, none⟩ = some (.int .i64 x526003_1) := (blk_cell BK525.out 3).trans rfl
            have hcz10_4 : wr.cell? ⟨gb525, 4, none⟩ = some (.int .i64 x526004_1) := (blk_cell BK525.out 4).trans rfl
            have hcz10_5 : wr.cell? ⟨gb525, 5, none⟩ = some (.int .i64 x526005_1) := (blk_cell BK525.out 5).trans rfl
            have hcz10_6 : wr.cell? ⟨gb525, 6, none⟩ = some (.int .i64 x526006_1) := (blk_cell BK525.out 6).trans rfl
            have hcz10_7 : wr.cell? ⟨gb525, 7, none⟩ = some (.int .u8 x526007_1) := (blk_cell BK525.out 7).trans rfl
            have hfz10_0 := blk_frozen BK525.out 0
            have hfz10_1 := blk_frozen BK525.out 1
            have hfz10_2 := blk_frozen BK525.out 2
            have hfz10_3 := blk_frozen BK525.out 3
            have hfz10_4 := blk_frozen BK525.out 4
            have hfz10_5 := blk_frozen BK525.out 5
            have hfz10_6 := blk_frozen BK525.out 6
            have hfz10_7 := blk_frozen BK525.out 7
            go_wp2
            refine bodyPost_ret (results_ct rfl _ _ gb525 23 #[.int .i64 ((rd_T23 l0_1 x6_1).f0), .int .i64 ((rd_T23 l0_1 x6_1).f1), .int .i64 ((rd_T23 l0_1 x6_1).f2), .int .i64 ((rd_T23 l0_1 x6_1).f3), .int .i64 ((rd_T23 l0_1 x6_1).f4), .int .i64 ((rd_T23 l0_1 x6_1).f5), .int .i64 ((rd_T23 l0_1 x6_1).f6), .int .u8 ((rd_T23 l0_1 x6_1).f7)] (0, 0) _ rfl (by (with_reducible repeat (first | refine blk_drewN ?_ _ | refine blk_drew ?_ | refine blk_alloc ?_ _)); refine blk_put (cs := #[.int .i64 ((rd_T23 l0_1 x6_1).f0), .int .i64 ((rd_T23 l0_1 x6_1).f1), .int .i64 ((rd_T23 l0_1 x6_1).f2), .int .i64 ((rd_T23 l0_1 x6_1).f3), .int .i64 ((rd_T23 l0_1 x6_1).f4), .int .i64 ((rd_T23 l0_1 x6_1).f5), .int .i64 ((rd_T23 l0_1 x6_1).f6), .int .u8 x526007_1]) ?_ 7 _ rfl; (with_reducible repeat (first | refine blk_drewN ?_ _ | refine blk_drew ?_ | refine blk_alloc ?_ _)); refine blk_put (cs := #[.int .i64 ((rd_T23 l0_1 x6_1).f0), .int .i64 ((rd_T23 l0_1 x6_1).f1), .int .i64 ((rd_T23 l0_1 x6_1).f2), .int .i64 ((rd_T23 l0_1 x6_1).f3), .int .i64 ((rd_T23 l0_1 x6_1).f4), .int .i64 ((rd_T23 l0_1 x6_1).f5), .int .i64 x526006_1, .int .u8 x526007_1]) ?_ 6 _ rfl; (with_reducible repeat (first | refine blk_drewN ?_ _ | refine blk_drew ?_ | refine blk_alloc ?_ _)); refine blk_put (cs := #[.int .i64 ((rd_T23 l0_1 x6_1).f0), .int .i64 ((rd_T23 l0_1 x6_1).f1), .int .i64 ((rd_T23 l0_1 x6_1).f2), .int .i64 ((rd_T23 l0_1 x6_1).f3), .int .i64 ((rd_T23 l0_1 x6_1).f4), .int .i64 x526005_1, .int .i64 x526006_1, .int .u8 x526007_1]) ?_ 5 _ rfl; (with_reducible repeat (first | refine blk_drewN ?_ _ | refine blk_drew ?_ | refine blk_alloc ?_ _)); refine blk_put (cs := #[.int .i64 ((rd_T23 l0_1 x6_1).f0), .int .i64 ((rd_T23 l0_1 x6_1).f1), .int .i64 ((rd_T23 l0_1 x6_1).f2), .int .i64 ((rd_T23 l0_1 x6_1).f3), .int .i64 x526004_1, .int .i64 x526005_1, .int .i64 x526006_1, .int .u8 x526007_1]) ?_ 4 _ rfl; (with_reducible repeat (first | refine blk_drewN ?_ _ | refine blk_drew ?_ | refine blk_alloc ?_ _)); refine blk_put (cs := #[.int .i64 ((rd_T23 l0_1 x6_1).f0), .int .i64 ((rd_T23 l0_1 x6_1).f1), .int .i64 ((rd_T23 l0_1 x6_1).f2), .int .i64 x526003_1, .int .i64 x526004_1, .int .i64 x526005_1, .int .i64 x526006_1, .int .u8 x526007_1]) ?_ 3 _ rfl; (with_reducible repeat (first | refine blk_drewN ?_ _ | refine blk_drew ?_ | refine blk_alloc ?_ _)); refine blk_put (cs := #[.int .i64 ((rd_T23 l0_1 x6_1).f0), .int .i64 ((rd_T23 l0_1 x6_1).f1), .int .i64 x526002_1, .int .i64 x526003_1, .int .i64 x526004_1, .int .i64 x526005_1, .int .i64 x526006_1, .int .u8 x526007_1]) ?_ 2 _ rfl; (with_reducible repeat (first | refine blk_drewN ?_ _ | refine blk_drew ?_ | refine blk_alloc ?_ _)); refine blk_put (cs := #[.int .i64 ((rd_T23 l0_1 x6_1).f0), .int .i64 x526001_1, .int .i64 x526002_1, .int .i64 x526003_1, .int .i64 x526004_1, .int .i64 x526005_1, .int .i64 x526006_1, .int .u8 x526007_1]) ?_ 1 _ rfl; (with_reducible repeat (first | refine blk_drewN ?_ _ | refine blk_drew ?_ | refine blk_alloc ?_ _)); refine blk_put (cs := #[.int .i64 x526000_1, .int .i64 x526001_1, .int .i64 x526002_1, .int .i64 x526003_1, .int .i64 x526004_1, .int .i64 x526005_1, .int .i64 x526006_1, .int .u8 x526007_1]) ?_ 0 _ rfl; (with_reducible repeat (first | refine blk_drewN ?_ _ | refine blk_drew ?_ | refine blk_alloc ?_ _)); exact BK525.out) Try.underlying23 rfl (by kernel_rfl)) rfl ?_
            exact ⟨by first | rfl | (simp [errW_none, errW_some] <;> rfl) | (simp [*, errW_none, errW_some] <;> rfl), by repeat (first | (with_reducible first | exact HB.out | apply below_alloc | apply pw_below_drewN | apply below_drew1 | refine below_set ?_ GE524.out | refine below_set ?_ GE525.out) | exact HB.out)⟩
          · rw [if_neg c7] at H
            have c7b0 : (((rd_T23 l0_1 x6_1).f0) == a1) = false := beq_eq_false_iff_ne.mpr c7
            have c7b1 : (((rd_T23 l0_1 x6_1).f0) != a1) = true := bne_iff_ne.mpr c7
            have H' := Aside0.mk H
            clear H
            have hnb11 := NB524_525.out
            have hnc11 := NB525_524.out
            have hcz12_0 : wr.cell? ⟨gb524, 0, none⟩ = some (.slice A0_0 l0_0.length c0_0) := (blk_cell BK524.out 0).trans rfl
            have hcz12_1 : wr.cell? ⟨gb524, 1, none⟩ = some (.slice A0_1 l0_1.length c0_1) := (blk_cell BK524.out 1).trans rfl
            have hfz12_0 := blk_frozen BK524.out 0
            have hfz12_1 := blk_frozen BK524.out 1
            have p526 : 0 ≤ (x6_1 : Int) := of_decide_eq_true (by first | (with_reducible assumption) | assumption)
            have q526 : x6_1 < (l0_1.length : Int) := of_decide_eq_true (by first | (with_reducible assumption) | assumption)
            obtain ⟨ad526, e526, hx526_0, hx526_1, hx526_2, hx526_3, hx526_4, hx526_5, hx526_6, hx526_7⟩ := at_T23 HR0_1.out x6_1 p526 q526
            cases e526
            replace hx526_0 := (HB.out.cell (World.block_lt_of_cell? w _ hx526_0)).trans hx526_0
            replace hx526_1 := (HB.out.cell (World.block_lt_of_cell? w _ hx526_1)).trans hx526_1
            replace hx526_2 := (HB.out.cell (World.block_lt_of_cell? w _ hx526_2)).trans hx526_2
            replace hx526_3 := (HB.out.cell (World.block_lt_of_cell? w _ hx526_3)).trans hx526_3
            replace hx526_4 := (HB.out.cell (World.block_lt_of_cell? w _ hx526_4)).trans hx526_4
            replace hx526_5 := (HB.out.cell (World.block_lt_of_cell? w _ hx526_5)).trans hx526_5
            replace hx526_6 := (HB.out.cell (World.block_lt_of_cell? w _ hx526_6)).trans hx526_6
            replace hx526_7 := (HB.out.cell (World.block_lt_of_cell? w _ hx526_7)).trans hx526_7
            replace p526 := eq_true p526
            replace q526 := eq_true q526
            go_wp2
            go_roundg k1
            case measure => have := HK1.out; omega
            case rel => exact ⟨(wrap64 (x6_1 + 1)), (x526000_1), (x526001_1), (x526002_1), (x526003_1), (x526004_1), (x526005_1), (x526006_1), (x526007_1), (by first | rfl | (simp; done) | (simp [*]; done)), H', ⟨by have := HK1.out; omega⟩, ⟨by (with_reducible repeat (first | refine blk_drewN ?_ _ | refine blk_drew ?_ | refine blk_alloc ?_ _)); exact BK524.out⟩, ⟨by (with_reducible repeat (first | refine blk_drewN ?_ _ | refine blk_drew ?_ | refine blk_alloc ?_ _)); exact BK525.out⟩, ⟨by repeat (first | (with_reducible first | exact HB.out | apply below_alloc | apply pw_below_drewN | apply below_drew1 | refine below_set ?_ GE524.out | refine below_set ?_ GE525.out) | exact HB.out)⟩⟩
        · rw [if_neg c6] at H
          exact absurd H (by simp)
      · rw [if_neg c5] at H
        have c5b0 : decide (x6_1 < (l0_1.length : Int)) = false := decide_eq_false c5
        clear c5
        simp only [Option.some.injEq, Prod.mk.injEq] at H
        obtain ⟨rfl, rfl, rfl, rfl, rfl, rfl, rfl, rfl, rfl⟩ := H
        have hnb13 := NB524_525.out
        have hnc13 := NB525_524.out
        have hcz14_0 : wr.cell? ⟨gb524, 0, none⟩ = some (.slice A0_0 l0_0.length c0_0) := (blk_cell BK524.out 0).trans rfl
        have hcz14_1 : wr.cell? ⟨gb524, 1, none⟩ = some (.slice A0_1 l0_1.length c0_1) := (blk_cell BK524.out 1).trans rfl
        have hfz14_0 := blk_frozen BK524.out 0
        have hfz14_1 := blk_frozen BK524.out 1
        have hcz15_0 : wr.cell? ⟨gb525, 0, none⟩ = some (.int .i64 x526000_1) := (blk_cell BK525.out 0).trans rfl
        have hcz15_1 : wr.cell? ⟨gb525, 1, none⟩ = some (.int .i64 x526001_1) := (blk_cell BK525.out 1).trans rfl
        have hcz15_2 : wr.cell? ⟨gb525, 2, none⟩ = some (.int .i64 x526002_1) := (blk_cell BK525.out 2).trans rfl
        have hcz15_3 : wr.cell? ⟨gb525, 3, none⟩ = some (.int .i64 x526003_1) := (blk_cell BK525.out 3).trans rfl
        have hcz15_4 : wr.cell? ⟨gb525, 4, none⟩ = some (.int .i64 x526004_1) := (blk_cell BK525.out 4).trans rfl
        have hcz15_5 : wr.cell? ⟨gb525, 5, none⟩ = some (.int .i64 x526005_1) := (blk_cell BK525.out 5).trans rfl
        have hcz15_6 : wr.cell? ⟨gb525, 6, none⟩ = some (.int .i64 x526006_1) := (blk_cell BK525.out 6).trans rfl
        have hcz15_7 : wr.cell? ⟨gb525, 7, none⟩ = some (.int .u8 x526007_1) := (blk_cell BK525.out 7).trans rfl
        have hfz15_0 := blk_frozen BK525.out 0
        have hfz15_1 := blk_frozen BK525.out 1
        have hfz15_2 := blk_frozen BK525.out 2
        have hfz15_3 := blk_frozen BK525.out 3
        have hfz15_4 := blk_frozen BK525.out 4
        have hfz15_5 := blk_frozen BK525.out 5
        have hfz15_6 := blk_frozen BK525.out 6
        have hfz15_7 := blk_frozen BK525.out 7
        go_wp2
        refine bodyPost_ret (results_ct rfl _ _ gb525 23 #[.int .i64 0, .int .i64 0, .int .i64 0, .int .i64 0, .int .i64 0, .int .i64 0, .int .i64 0, .int .u8 0] (0, 0) _ rfl (by (with_reducible repeat (first | refine blk_drewN ?_ _ | refine blk_drew ?_ | refine blk_alloc ?_ _)); refine blk_put (cs := #[.int .i64 0, .int .i64 0, .int .i64 0, .int .i64 0, .int .i64 0, .int .i64 0, .int .i64 0, .int .u8 x526007_1]) ?_ 7 _ rfl; (with_reducible repeat (first | refine blk_drewN ?_ _ | refine blk_drew ?_ | refine blk_alloc ?_ _)); refine blk_put (cs := #[.int .i64 0, .int .i64 0, .int .i64 0, .int .i64 0, .int .i64 0, .int .i64 0, .int .i64 x526006_1, .int .u8 x526007_1]) ?_ 6 _ rfl; (with_reducible repeat (first | refine blk_drewN ?_ _ | refine blk_drew ?_ | refine blk_alloc ?_ _)); refine blk_put (cs := #[.int .i64 0, .int .i64 0, .int .i64 0, .int .i64 0, .int .i64 0, .int .i64 x526005_1, .int .i64 x526006_1, .int .u8 x526007_1]) ?_ 5 _ rfl; (with_reducible repeat (first | refine blk_drewN ?_ _ | refine blk_drew ?_ | refine blk_alloc ?_ _)); refine blk_put (cs := #[.int .i64 0, .int .i64 0, .int .i64 0, .int .i64 0, .int .i64 x526004_1, .int .i64 x526005_1, .int .i64 x526006_1, .int .u8 x526007_1]) ?_ 4 _ rfl; (with_reducible repeat (first | refine blk_drewN ?_ _ | refine blk_drew ?_ | refine blk_alloc ?_ _)); refine blk_put (cs := #[.int .i64 0, .int .i64 0, .int .i64 0, .int .i64 x526003_1, .int .i64 x526004_1, .int .i64 x526005_1, .int .i64 x526006_1, .int .u8 x526007_1]) ?_ 3 _ rfl; (with_reducible repeat (first | refine blk_drewN ?_ _ | refine blk_drew ?_ | refine blk_alloc ?_ _)); refine blk_put (cs := #[.int .i64 0, .int .i64 0, .int .i64 x526002_1, .int .i64 x526003_1, .int .i64 x526004_1, .int .i64 x526005_1, .int .i64 x526006_1, .int .u8 x526007_1]) ?_ 2 _ rfl; (with_reducible repeat (first | refine blk_drewN ?_ _ | refine blk_drew ?_ | refine blk_alloc ?_ _)); refine blk_put (cs := #[.int .i64 0, .int .i64 x526001_1, .int .i64 x526002_1, .int .i64 x526003_1, .int .i64 x526004_1, .int .i64 x526005_1, .int .i64 x526006_1, .int .u8 x526007_1]) ?_ 1 _ rfl; (with_reducible repeat (first | refine blk_drewN ?_ _ | refine blk_drew ?_ | refine blk_alloc ?_ _)); refine blk_put (cs := #[.int .i64 x526000_1, .int .i64 x526001_1, .int .i64 x526002_1, .int .i64 x526003_1, .int .i64 x526004_1, .int .i64 x526005_1, .int .i64 x526006_1, .int .u8 x526007_1]) ?_ 0 _ rfl; (with_reducible repeat (first | refine blk_drewN ?_ _ | refine blk_drew ?_ | refine blk_alloc ?_ _)); exact BK525.out) Try.underlying23 rfl (by kernel_rfl)) rfl ?_
        exact ⟨by first | rfl | (simp [errW_none, errW_some] <;> rfl) | (simp [*, errW_none, errW_some] <;> rfl), by repeat (first | (with_reducible first | exact HB.out | apply below_alloc | apply pw_below_drewN | apply below_drew1 | refine below_set ?_ GE524.out | refine below_set ?_ GE525.out) | exact HB.out)⟩

/-! ### letterbagref32_runs: function 101 -/
def letterbagref32_runs.l0 : Nat → Int → Int → Int → Option (Bool)
  | 0, _, _, _ => none
  | k + 1, x1, x5, x6 => if x6 < x1 then (letterbagref32_runs.l0 k x1 (wrap64 (Int.tdiv x5 2)) (wrap64 (x6 + 1))) else (some ((Int.tmod x5 2) == 1))
def letterbagref32_runs.f (k : Nat) (a0_0 : Int) (a0_1 : Int) (a0_2 : Int) (a0_3 : Int) (a0_4 : Int) (a0_5 : Int) (a0_6 : Int) (a0_7 : Int) (a1 : Int) : Option (Bool) := letterbagref32_runs.l0 k a1 (wrap64 (a0_7)) 0
set_option maxHeartbeats 8000000 in
set_option maxRecDepth 100000 in
theorem letterbagref32_runs.calls (k : Nat) (a0_0 : Int) (a0_1 : Int) (a0_2 : Int) (a0_3 : Int) (a0_4 : Int) (a0_5 : Int) (a0_6 : Int) (a0_7 : Int) (a1 : Int) (r : Bool) (w : World) (h : letterbagref32_runs.f k a0_0 a0_1 a0_2 a0_3 a0_4 a0_5 a0_6 a0_7 a1 = some r) :
    Calls Try.prog 101 #[.agg #[.int .i64 a0_0, .int .i64 a0_1, .int .i64 a0_2, .int .i64 a0_3, .int .i64 a0_4, .int .i64 a0_5, .int .i64 a0_6, .int .u8 a0_7], .int .i64 a1] w fun e w' => e = .returned (.bool r) ∧ Below w.heap.size w w' := by
  have hu23 := Try.underlying23
  have HB := Aside0.mk (Below.refl w.heap.size w)
  have H : (letterbagref32_runs.l0 k a1 (wrap64 (a0_7)) 0) = some r := h
  clear h
  have H' := Aside0.mk H
  clear H
  go_enter Try.func101, Try.ntmps101
  go_wp2_with (first | ((with_reducible refine gate_dst (N := 2) rfl ?_); refine box_event ?hg (N := 2) ?hd (cs := #[.int .i64 a0_0, .int .i64 a0_1, .int .i64 a0_2, .int .i64 a0_3, .int .i64 a0_4, .int .i64 a0_5, .int .i64 a0_6, .int .u8 a0_7]) (t := 23) ?hr ?_; (case hd => rfl); (case hg => rfl); (case hr => first | (go_simp; done) | (go_simp; rfl)); intro gb528 hg w3 hbox hb; have n0_ := Aside0.mk (below_step (by repeat (first | (with_reducible first | exact HB.out | apply below_alloc | apply pw_below_drewN | apply below_drew1) | exact HB.out)) hb); have n1_ := Aside0.mk (hbox); have n2_ := Aside0.mk ((by rw [hg]; exact (below_size (by repeat (first | (with_reducible first | exact HB.out | apply below_alloc | apply pw_below_drewN | apply below_drew1) | exact HB.out))) : w.heap.size ≤ gb528)); have n3_ := Aside0.mk ((by rw [hg]; exact (below_size (by repeat (first | (with_reducible first | exact HB.out | apply below_alloc | apply pw_below_drewN | apply below_drew1) | exact HB.out))) : w.heap.size ≤ gb528)); clear HB; have HB := n0_; have BK528 := n1_; have GW528 := n2_; have GE528 := n3_; clear n0_ n1_ n2_ n3_; clear hb hbox hg; have hcz4_0 : w3.cell? ⟨gb528, 0, none⟩ = some (.int .i64 a0_0) := (blk_cell BK528.out 0).trans rfl; have hcz4_1 : w3.cell? ⟨gb528, 1, none⟩ = some (.int .i64 a0_1) := (blk_cell BK528.out 1).trans rfl; have hcz4_2 : w3.cell? ⟨gb528, 2, none⟩ = some (.int .i64 a0_2) := (blk_cell BK528.out 2).trans rfl; have hcz4_3 : w3.cell? ⟨gb528, 3, none⟩ = some (.int .i64 a0_3) := (blk_cell BK528.out 3).trans rfl; have hcz4_4 : w3.cell? ⟨gb528, 4, none⟩ = some (.int .i64 a0_4) := (blk_cell BK528.out 4).trans rfl; have hcz4_5 : w3.cell? ⟨gb528, 5, none⟩ = some (.int .i64 a0_5) := (blk_cell BK528.out 5).trans rfl; have hcz4_6 : w3.cell? ⟨gb528, 6, none⟩ = some (.int .i64 a0_6) := (blk_cell BK528.out 6).trans rfl; have hcz4_7 : w3.cell? ⟨gb528, 7, none⟩ = some (.int .u8 a0_7) := (blk_cell BK528.out 7).trans rfl; have hfz4_0 := blk_frozen BK528.out 0; have hfz4_1 := blk_frozen BK528.out 1; have hfz4_2 := blk_frozen BK528.out 2; have hfz4_3 := blk_frozen BK528.out 3; have hfz4_4 := blk_frozen BK528.out 4; have hfz4_5 := blk_frozen BK528.out 5; have hfz4_6 := blk_frozen BK528.out 6; have hfz4_7 := blk_frozen BK528.out 7))
  go_loopg [5, 6] k (fun kq v5 v6 w' => ∃ (x5_1 : Int) (x6_1 : Int), v5 = .int .i64 x5_1 ∧ v6 = .int .i64 x6_1 ∧ Aside0 (letterbagref32_runs.l0 kq a1 x5_1 x6_1 = some r) ∧ Aside0 (kq ≤ k) ∧ Aside0 (w'.heap[gb528]? = some (.cells #[.int .i64 a0_0, .int .i64 a0_1, .int .i64 a0_2, .int .i64 a0_3, .int .i64 a0_4, .int .i64 a0_5, .int .i64 a0_6, .int .u8 a0_7] 23 (0, 0))) ∧ Aside0 (Below w.heap.size w w'))
  case atStart => exact ⟨(wrap64 (a0_7)), (0), (by first | rfl | (simp; done) | (simp [*]; done)), (by first | rfl | (simp; done) | (simp [*]; done)), H', ⟨Nat.le_refl _⟩, ⟨by (with_reducible repeat (first | refine blk_drewN ?_ _ | refine blk_drew ?_ | refine blk_alloc ?_ _)); exact BK528.out⟩, ⟨by repeat (first | (with_reducible first | exact HB.out | apply below_alloc | apply pw_below_drewN | apply below_drew1 | refine below_set ?_ GE528.out) | exact HB.out)⟩⟩
  case round =>
    clear H'
    try clear c1
    try clear p2
    try clear hcz4_0
    try clear hcz4_1
    try clear hcz4_2
    try clear hcz4_3
    try clear hcz4_4
    try clear hcz4_5
    try clear hcz4_6
    try clear hcz4_7
    try clear hfz4_0
    try clear hfz4_1
    try clear hfz4_2
    try clear hfz4_3
    try clear hfz4_4
    try clear hfz4_5
    try clear hfz4_6
    try clear hfz4_7
    obtain ⟨x5_1, x6_1, rfl, rfl, HA, HK1, BK528, HB⟩ := hrel
    cases gk with
    | zero => exact absurd HA.out (by simp [letterbagref32_runs.l0])
    | succ k1 =>
      have H := HA.out
      clear HA
      simp only [letterbagref32_runs.l0] at H
      by_cases c5 : x6_1 < a1
      · rw [if_pos c5] at H
        have c5b0 : decide (x6_1 < a1) = true := decide_eq_true c5
        clear c5
        have H' := Aside0.mk H
        clear H
        go_wp2
        go_roundg k1
        case measure => have := HK1.out; omega
        case rel => exact ⟨(wrap64 (Int.tdiv x5_1 2)), (wrap64 (x6_1 + 1)), (by first | rfl | (simp; done) | (simp [*]; done)), (by first | rfl | (simp; done) | (simp [*]; done)), H', ⟨by have := HK1.out; omega⟩, ⟨by (with_reducible repeat (first | refine blk_drewN ?_ _ | refine blk_drew ?_ | refine blk_alloc ?_ _)); exact BK528.out⟩, ⟨by repeat (first | (with_reducible first | exact HB.out | apply below_alloc | apply pw_below_drewN | apply below_drew1 | refine below_set ?_ GE528.out) | exact HB.out)⟩⟩
      · rw [if_neg c5] at H
        have c5b0 : decide (x6_1 < a1) = false := decide_eq_false c5
        clear c5
        obtain rfl := Option.some.inj H
        go_wp2
        go_ret
        exact ⟨by first | rfl | (simp [errW_none, errW_some] <;> rfl) | (simp [*, errW_none, errW_some] <;> rfl), by repeat (first | (with_reducible first | exact HB.out | apply below_alloc | apply pw_below_drewN | apply below_drew1 | refine below_set ?_ GE528.out) | exact HB.out)⟩

end Go.Proofs.Ytdpadeklociinaa.PA
namespace Go.Proofs.Ytdpadeklociinaa.PA
open Go.RowKit Go.Proofs.YtdpadeklociinaaW.PrintWords Go.Proofs.YtdpadeklociinaaW.PrintLast Go.Proofs.YtdpadeklociinaaW.PrintMore
attribute [local go_sem] max2_int min2_int max_two min_two max_three min_three max_four min_four   -- for this text's walks alone
set_option linter.unusedVariables false
set_option linter.unusedSimpArgs false

/-! ### letterbagref32_On: function 69 -/
def letterbagref32_On.j0 : Nat → Int → Bool → Int → Int → Int → Int → Int → Int → Int → Int → Option (Int × Int × Bool)
  | 0, _, _, _, _, _, _, _, _, _, _ => none
  | k + 1, x1, x21, x530000, x530001, x530002, x530003, x530004, x530005, x530006, x530007 => if x21 = true then (some (0, 0, false)) else (if (wrap64 ((wrap64 ((wrap64 (x1 * 1440)) + x530003)) - x530005)) < 0 then (some (0, 0, false)) else (if (wrap64 ((wrap64 ((wrap64 (x1 * 1440)) + x530003)) + x530004)) > 1051898399 then (some (0, 0, false)) else (some (wrap64 ((wrap64 (x1 * 1440)) + x530003), wrap64 ((wrap64 ((wrap64 (x1 * 1440)) + x530003)) + x530004), true))))
def letterbagref32_On.f (k : Nat) (a0_0 : Int) (a0_1 : Int) (a0_2 : Int) (a0_3 : Int) (a0_4 : Int) (a0_5 : Int) (a0_6 : Int) (a0_7 : Int) (a1 : Int) : Option (Int × Int × Bool) := (letterbagref32_Right.f a0_0 a0_1 a0_2 a0_3 a0_4 a0_5 a0_6 a0_7).bind fun t531 => (if t531 = true then ((letterbagref32_in.f a1 0 730484).bind fun t532 => (if t532 = true then ((letterbagref32_runs.f k a0_0 a0_1 a0_2 a0_3 a0_4 a0_5 a0_6 a0_7 (Int.tmod a1 7)).bind fun t533 => (letterbagref32_On.j0 k a1 (!t533) a0_0 a0_1 a0_2 a0_3 a0_4 a0_5 a0_6 a0_7)) else (letterbagref32_On.j0 k a1 true a0_0 a0_1 a0_2 a0_3 a0_4 a0_5 a0_6 a0_7))) else (letterbagref32_On.j0 k a1 true a0_0 a0_1 a0_2 a0_3 a0_4 a0_5 a0_6 a0_7))
set_option maxHeartbeats 8000000 in
set_option maxRecDepth 100000 in
theorem letterbagref32_On.calls (k : Nat) (a0_0 : Int) (a0_1 : Int) (a0_2 : Int) (a0_3 : Int) (a0_4 : Int) (a0_5 : Int) (a0_6 : Int) (a0_7 : Int) (a1 : Int) (r1 : Int) (r2 : Int) (r3 : Bool) (w : World) (h : letterbagref32_On.f k a0_0 a0_1 a0_2 a0_3 a0_4 a0_5 a0_6 a0_7 a1 = some (r1, r2, r3)) :
    Calls Try.prog 69 #[.agg #[.int .i64 a0_0, .int .i64 a0_1, .int .i64 a0_2, .int .i64 a0_3, .int .i64 a0_4, .int .i64 a0_5, .int .i64 a0_6, .int .u8 a0_7], .int .i64 a1] w fun e w' => e = .returned (.tuple #[.agg #[.int .i64 r1, .int .i64 r2], .bool r3]) ∧ Below w.heap.size w w' := by
  have hu23 := Try.underlying23
  have hu120 := Try.underlying120
  have HB := Aside0.mk (Below.refl w.heap.size w)
  have H : ((letterbagref32_Right.f a0_0 a0_1 a0_2 a0_3 a0_4 a0_5 a0_6 a0_7).bind fun t531 => (if t531 = true then ((letterbagref32_in.f a1 0 730484).bind fun t532 => (if t532 = true then ((letterbagref32_runs.f k a0_0 a0_1 a0_2 a0_3 a0_4 a0_5 a0_6 a0_7 (Int.tmod a1 7)).bind fun t533 => (letterbagref32_On.j0 k a1 (!t533) a0_0 a0_1 a0_2 a0_3 a0_4 a0_5 a0_6 a0_7)) else (letterbagref32_On.j0 k a1 true a0_0 a0_1 a0_2 a0_3 a0_4 a0_5 a0_6 a0_7))) else (letterbagref32_On.j0 k a1 true a0_0 a0_1 a0_2 a0_3 a0_4 a0_5 a0_6 a0_7))) = some (r1, r2, r3) := h
  clear h
  have HC3 := Aside0.mk H
  clear H
  go_enter Try.func69, Try.ntmps69
  go_upto_region 1 with (first | ((with_reducible refine gate_dst (N := 2) rfl ?_); refine box_event ?hg (N := 2) ?hd (cs := #[.int .i64 a0_0, .int .i64 a0_1, .int .i64 a0_2, .int .i64 a0_3, .int .i64 a0_4, .int .i64 a0_5, .int .i64 a0_6, .int .u8 a0_7]) (t := 23) ?hr ?_; (case hd => rfl); (case hg => rfl); (case hr => first | (go_simp; done) | (go_simp; rfl)); intro gb529 hg w4 hbox hb; have n0_ := Aside0.mk (below_step (by repeat (first | (with_reducible first | exact HB.out | apply below_alloc | apply pw_below_drewN | apply below_drew1) | exact HB.out)) hb); have n1_ := Aside0.mk (hbox); have n2_ := Aside0.mk ((by rw [hg]; exact (below_size (by repeat (first | (with_reducible first | exact HB.out | apply below_alloc | apply pw_below_drewN | apply below_drew1) | exact HB.out))) : w.heap.size ≤ gb529)); have n3_ := Aside0.mk ((by rw [hg]; exact (below_size (by repeat (first | (with_reducible first | exact HB.out | apply below_alloc | apply pw_below_drewN | apply below_drew1) | exact HB.out))) : w.heap.size ≤ gb529)); clear HB; have HB := n0_; have BK529 := n1_; have GW529 := n2_; have GE529 := n3_; clear n0_ n1_ n2_ n3_; clear hb hbox hg) | ((with_reducible refine gate_dst (N := 4) rfl ?_); refine box_event ?hg (N := 4) ?hd (cs := #[.int .i64 0, .int .i64 0]) (t := 120) ?hr ?_; (case hd => rfl); (case hg => rfl); (case hr => first | (go_simp; done) | (go_simp; rfl)); intro gb530 hg w5 hbox hb; have n0_ := Aside0.mk (blk_below (g := gb529) (o := .cells #[.int .i64 a0_0, .int .i64 a0_1, .int .i64 a0_2, .int .i64 a0_3, .int .i64 a0_4, .int .i64 a0_5, .int .i64 a0_6, .int .u8 a0_7] 23 (0, 0)) (by (with_reducible repeat (first | refine blk_drewN ?_ _ | refine blk_drew ?_ | refine blk_alloc ?_ _)); exact BK529.out) hb); have n1_ := Aside0.mk (below_step (by repeat (first | (with_reducible first | exact HB.out | apply below_alloc | apply pw_below_drewN | apply below_drew1 | refine below_set ?_ GE529.out) | exact HB.out)) hb); have n2_ := Aside0.mk (hbox); have n3_ := Aside0.mk ((by rw [hg]; exact (below_size (by repeat (first | (with_reducible first | exact HB.out | apply below_alloc | apply pw_below_drewN | apply below_drew1 | refine below_set ?_ GE529.out) | exact HB.out))) : w.heap.size ≤ gb530)); have n4_ := Aside0.mk ((by rw [hg]; exact (below_size (by repeat (first | (with_reducible first | exact HB.out | apply below_alloc | apply pw_below_drewN | apply below_drew1 | refine below_set ?_ GE529.out) | exact HB.out))) : w.heap.size ≤ gb530)); have n5_ := Aside0.mk ((by rw [hg]; exact Nat.ne_of_lt (blk_lt (g := gb529) (o := .cells #[.int .i64 a0_0, .int .i64 a0_1, .int .i64 a0_2, .int .i64 a0_3, .int .i64 a0_4, .int .i64 a0_5, .int .i64 a0_6, .int .u8 a0_7] 23 (0, 0)) (by (with_reducible repeat (first | refine blk_drewN ?_ _ | refine blk_drew ?_ | refine blk_alloc ?_ _)); exact BK529.out)) : gb529 ≠ gb530)); have n6_ := Aside0.mk ((by rw [hg]; exact Nat.ne_of_gt (blk_lt (g := gb529) (o := .cells #[.int .i64 a0_0, .int .i64 a0_1, .int .i64 a0_2, .int .i64 a0_3, .int .i64 a0_4, .int .i64 a0_5, .int .i64 a0_6, .int .u8 a0_7] 23 (0, 0)) (by (with_reducible repeat (first | refine blk_drewN ?_ _ | refine blk_drew ?_ | refine blk_alloc ?_ _)); exact BK529.out)) : gb530 ≠ gb529)); clear BK529; clear HB; have BK529 := n0_; have HB := n1_; have BK530 := n2_; have GW530 := n3_; have GE530 := n4_; have NB529_530 := n5_; have NB530_529 := n6_; clear n0_ n1_ n2_ n3_ n4_ n5_ n6_; clear hb hbox hg))
  (try simp only [Act.put, List.setIfInBounds_toArray, List.set_cons_zero, List.set_cons_succ])
  go_cut [21] (fun v21 wc => ∃ (kq : Nat) (x21_2 : Bool), v21 = .bool x21_2 ∧ Aside0 (letterbagref32_On.j0 kq a1 x21_2 a0_0 a0_1 a0_2 a0_3 a0_4 a0_5 a0_6 a0_7 = some (r1, r2, r3)) ∧ Aside0 (kq ≤ k) ∧ Aside0 (wc.heap[gb529]? = some (.cells #[.int .i64 a0_0, .int .i64 a0_1, .int .i64 a0_2, .int .i64 a0_3, .int .i64 a0_4, .int .i64 a0_5, .int .i64 a0_6, .int .u8 a0_7] 23 (0, 0))) ∧ Aside0 (wc.heap[gb530]? = some (.cells #[.int .i64 0, .int .i64 0] 120 (0, 0))) ∧ Aside0 (Below w.heap.size w wc))
  case first =>
    have H := HC3.out
    clear HC3
    replace H := Option.bind_eq_some_iff.mp H
    obtain ⟨t531, A60, H⟩ := H
    replace H : (if t531 = true then ((letterbagref32_in.f a1 0 730484).bind fun t532 => (if t532 = true then ((letterbagref32_runs.f k a0_0 a0_1 a0_2 a0_3 a0_4 a0_5 a0_6 a0_7 (Int.tmod a1 7)).bind fun t533 => (letterbagref32_On.j0 k a1 (!t533) a0_0 a0_1 a0_2 a0_3 a0_4 a0_5 a0_6 a0_7)) else (letterbagref32_On.j0 k a1 true a0_0 a0_1 a0_2 a0_3 a0_4 a0_5 a0_6 a0_7))) else (letterbagref32_On.j0 k a1 true a0_0 a0_1 a0_2 a0_3 a0_4 a0_5 a0_6 a0_7)) = some (r1, r2, r3) := H
    have A6 := Aside0.mk A60
    clear A60
    by_cases c7 : t531 = true
    · subst c7
      have H1 : ((letterbagref32_in.f a1 0 730484).bind fun t532 => (if t532 = true then ((letterbagref32_runs.f k a0_0 a0_1 a0_2 a0_3 a0_4 a0_5 a0_6 a0_7 (Int.tmod a1 7)).bind fun t533 => (letterbagref32_On.j0 k a1 (!t533) a0_0 a0_1 a0_2 a0_3 a0_4 a0_5 a0_6 a0_7)) else (letterbagref32_On.j0 k a1 true a0_0 a0_1 a0_2 a0_3 a0_4 a0_5 a0_6 a0_7))) = some (r1, r2, r3) := by rw [if_pos rfl] at H; exact H
      clear H
      have H := H1
      clear H1
      replace H := Option.bind_eq_some_iff.mp H
      obtain ⟨t532, A80, H⟩ := H
      replace H : (if t532 = true then ((letterbagref32_runs.f k a0_0 a0_1 a0_2 a0_3 a0_4 a0_5 a0_6 a0_7 (Int.tmod a1 7)).bind fun t533 => (letterbagref32_On.j0 k a1 (!t533) a0_0 a0_1 a0_2 a0_3 a0_4 a0_5 a0_6 a0_7)) else (letterbagref32_On.j0 k a1 true a0_0 a0_1 a0_2 a0_3 a0_4 a0_5 a0_6 a0_7)) = some (r1, r2, r3) := H
      have A8 := Aside0.mk A80
      clear A80
      by_cases c9 : t532 = true
      · subst c9
        have H1 : ((letterbagref32_runs.f k a0_0 a0_1 a0_2 a0_3 a0_4 a0_5 a0_6 a0_7 (Int.tmod a1 7)).bind fun t533 => (letterbagref32_On.j0 k a1 (!t533) a0_0 a0_1 a0_2 a0_3 a0_4 a0_5 a0_6 a0_7)) = some (r1, r2, r3) := by rw [if_pos rfl] at H; exact H
        clear H
        have H := H1
        clear H1
        replace H := Option.bind_eq_some_iff.mp H
        obtain ⟨t533, A100, H⟩ := H
        replace H : (letterbagref32_On.j0 k a1 (!t533) a0_0 a0_1 a0_2 a0_3 a0_4 a0_5 a0_6 a0_7) = some (r1, r2, r3) := H
        have A10 := Aside0.mk A100
        clear A100
        have H' := Aside0.mk H
        clear H
        have hnb11 := NB529_530.out
        have hnc11 := NB530_529.out
        have hcz12_0 : w5.cell? ⟨gb529, 0, none⟩ = some (.int .i64 a0_0) := (blk_cell BK529.out 0).trans rfl
        have hcz12_1 : w5.cell? ⟨gb529, 1, none⟩ = some (.int .i64 a0_1) := (blk_cell BK529.out 1).trans rfl
        have hcz12_2 : w5.cell? ⟨gb529, 2, none⟩ = some (.int .i64 a0_2) := (blk_cell BK529.out 2).trans rfl
        have hcz12_3 : w5.cell? ⟨gb529, 3, none⟩ = some (.int .i64 a0_3) := (blk_cell BK529.out 3).trans rfl
        have hcz12_4 : w5.cell? ⟨gb529, 4, none⟩ = some (.int .i64 a0_4) := (blk_cell BK529.out 4).trans rfl
        have hcz12_5 : w5.cell? ⟨gb529, 5, none⟩ = some (.int .i64 a0_5) := (blk_cell BK529.out 5).trans rfl
        have hcz12_6 : w5.cell? ⟨gb529, 6, none⟩ = some (.int .i64 a0_6) := (blk_cell BK529.out 6).trans rfl
        have hcz12_7 : w5.cell? ⟨gb529, 7, none⟩ = some (.int .u8 a0_7) := (blk_cell BK529.out 7).trans rfl
        have hfz12_0 := blk_frozen BK529.out 0
        have hfz12_1 := blk_frozen BK529.out 1
        have hfz12_2 := blk_frozen BK529.out 2
        have hfz12_3 := blk_frozen BK529.out 3
        have hfz12_4 := blk_frozen BK529.out 4
        have hfz12_5 := blk_frozen BK529.out 5
        have hfz12_6 := blk_frozen BK529.out 6
        have hfz12_7 := blk_frozen BK529.out 7
        go_wp2_with (first | ((with_reducible refine gate_callee (f := 99) rfl ?_); refine goesL_ (some 8) rfl rfl Try.func99 (by kernel_rfl) rfl #[.agg #[.int .i64 a0_0, .int .i64 a0_1, .int .i64 a0_2, .int .i64 a0_3, .int .i64 a0_4, .int .i64 a0_5, .int .i64 a0_6, .int .u8 a0_7]] rfl (by (try simp only [List.map_toArray, List.map_cons, List.map_nil]); first | done | rfl | (simp only [List.length_drop, List.length_take]; rfl)) ?_; (with_reducible refine (letterbagref32_Right.calls a0_0 a0_1 a0_2 a0_3 a0_4 a0_5 a0_6 a0_7 true _ A6.out).mono ?_); rintro e w13 ⟨rfl, hb⟩; refine ⟨_, rfl, ?_⟩; have n0_ := Aside0.mk (blk_below (g := gb529) (o := .cells #[.int .i64 a0_0, .int .i64 a0_1, .int .i64 a0_2, .int .i64 a0_3, .int .i64 a0_4, .int .i64 a0_5, .int .i64 a0_6, .int .u8 a0_7] 23 (0, 0)) (by (with_reducible repeat (first | refine blk_drewN ?_ _ | refine blk_drew ?_ | refine blk_alloc ?_ _)); exact BK529.out) hb); have n1_ := Aside0.mk (blk_below (g := gb530) (o := .cells #[.int .i64 0, .int .i64 0] 120 (0, 0)) (by (with_reducible repeat (first | refine blk_drewN ?_ _ | refine blk_drew ?_ | refine blk_alloc ?_ _)); exact BK530.out) hb); have n2_ := Aside0.mk (below_step (by repeat (first | (with_reducible first | exact HB.out | apply below_alloc | apply pw_below_drewN | apply below_drew1 | refine below_set ?_ GE529.out | refine below_set ?_ GE530.out) | exact HB.out)) hb); clear BK529; clear BK530; clear HB; have BK529 := n0_; have BK530 := n1_; have HB := n2_; clear n0_ n1_ n2_; (try clear hb); (try clear hb2); (try clear hk); (try clear hi)) | (go_at_call 100; (with_reducible refine (letterbagref32_in.calls a1 0 730484 true _ A8.out).mono ?_); rintro e w' ⟨rfl, ⟨nd, rfl⟩⟩; have hcz14_0 : w13.cell? ⟨gb529, 0, none⟩ = some (.int .i64 a0_0) := (blk_cell BK529.out 0).trans rfl; have hcz14_1 : w13.cell? ⟨gb529, 1, none⟩ = some (.int .i64 a0_1) := (blk_cell BK529.out 1).trans rfl; have hcz14_2 : w13.cell? ⟨gb529, 2, none⟩ = some (.int .i64 a0_2) := (blk_cell BK529.out 2).trans rfl; have hcz14_3 : w13.cell? ⟨gb529, 3, none⟩ = some (.int .i64 a0_3) := (blk_cell BK529.out 3).trans rfl; have hcz14_4 : w13.cell? ⟨gb529, 4, none⟩ = some (.int .i64 a0_4) := (blk_cell BK529.out 4).trans rfl; have hcz14_5 : w13.cell? ⟨gb529, 5, none⟩ = some (.int .i64 a0_5) := (blk_cell BK529.out 5).trans rfl; have hcz14_6 : w13.cell? ⟨gb529, 6, none⟩ = some (.int .i64 a0_6) := (blk_cell BK529.out 6).trans rfl; have hcz14_7 : w13.cell? ⟨gb529, 7, none⟩ = some (.int .u8 a0_7) := (blk_cell BK529.out 7).trans rfl; have hfz14_0 := blk_frozen BK529.out 0; have hfz14_1 := blk_frozen BK529.out 1; have hfz14_2 := blk_frozen BK529.out 2; have hfz14_3 := blk_frozen BK529.out 3; have hfz14_4 := blk_frozen BK529.out 4; have hfz14_5 := blk_frozen BK529.out 5; have hfz14_6 := blk_frozen BK529.out 6; have hfz14_7 := blk_frozen BK529.out 7) | (go_at_call 101; (with_reducible refine (letterbagref32_runs.calls k a0_0 a0_1 a0_2 a0_3 a0_4 a0_5 a0_6 a0_7 (Int.tmod a1 7) t533 _ A10.out).mono ?_); rintro e w15 ⟨rfl, hb⟩; have n0_ := Aside0.mk (blk_below (g := gb529) (o := .cells #[.int .i64 a0_0, .int .i64 a0_1, .int .i64 a0_2, .int .i64 a0_3, .int .i64 a0_4, .int .i64 a0_5, .int .i64 a0_6, .int .u8 a0_7] 23 (0, 0)) (by (with_reducible repeat (first | refine blk_drewN ?_ _ | refine blk_drew ?_ | refine blk_alloc ?_ _)); exact BK529.out) hb); have n1_ := Aside0.mk (blk_below (g := gb530) (o := .cells #[.int .i64 0, .int .i64 0] 120 (0, 0)) (by (with_reducible repeat (first | refine blk_drewN ?_ _ | refine blk_drew ?_ | refine blk_alloc ?_ _)); exact BK530.out) hb); have n2_ := Aside0.mk (below_step (by repeat (first | (with_reducible first | exact HB.out | apply below_alloc | apply pw_below_drewN | apply below_drew1 | refine below_set ?_ GE529.out | refine below_set ?_ GE530.out) | exact HB.out)) hb); clear BK529; clear BK530; clear HB; have BK529 := n0_; have BK530 := n1_; have HB := n2_; clear n0_ n1_ n2_; (try clear hb); (try clear hb2); (try clear hk); (try clear hi)))
        go_meet
        case rel => exact ⟨_, (!t533), (by first | rfl | (simp; done) | (simp [*]; done)), H', ⟨by first | omega | exact Nat.le_refl _⟩, ⟨by (with_reducible repeat (first | refine blk_drewN ?_ _ | refine blk_drew ?_ | refine blk_alloc ?_ _)); exact BK529.out⟩, ⟨by (with_reducible repeat (first | refine blk_drewN ?_ _ | refine blk_drew ?_ | refine blk_alloc ?_ _)); exact BK530.out⟩, ⟨by repeat (first | (with_reducible first | exact HB.out | apply below_alloc | apply pw_below_drewN | apply below_drew1 | refine below_set ?_ GE529.out | refine below_set ?_ GE530.out) | exact HB.out)⟩⟩
      · replace c9 := Bool.eq_false_iff.mpr c9
        subst c9
        have H1 : (letterbagref32_On.j0 k a1 true a0_0 a0_1 a0_2 a0_3 a0_4 a0_5 a0_6 a0_7) = some (r1, r2, r3) := by rw [if_neg (show ¬ (false = true) by decide)] at H; exact H
        clear H
        have H := H1
        clear H1
        have H' := Aside0.mk H
        clear H
        have hnb16 := NB529_530.out
        have hnc16 := NB530_529.out
        have hcz17_0 : w5.cell? ⟨gb529, 0, none⟩ = some (.int .i64 a0_0) := (blk_cell BK529.out 0).trans rfl
        have hcz17_1 : w5.cell? ⟨gb529, 1, none⟩ = some (.int .i64 a0_1) := (blk_cell BK529.out 1).trans rfl
        have hcz17_2 : w5.cell? ⟨gb529, 2, none⟩ = some (.int .i64 a0_2) := (blk_cell BK529.out 2).trans rfl
        have hcz17_3 : w5.cell? ⟨gb529, 3, none⟩ = some (.int .i64 a0_3) := (blk_cell BK529.out 3).trans rfl
        have hcz17_4 : w5.cell? ⟨gb529, 4, none⟩ = some (.int .i64 a0_4) := (blk_cell BK529.out 4).trans rfl
        have hcz17_5 : w5.cell? ⟨gb529, 5, none⟩ = some (.int .i64 a0_5) := (blk_cell BK529.out 5).trans rfl
        have hcz17_6 : w5.cell? ⟨gb529, 6, none⟩ = some (.int .i64 a0_6) := (blk_cell BK529.out 6).trans rfl
        have hcz17_7 : w5.cell? ⟨gb529, 7, none⟩ = some (.int .u8 a0_7) := (blk_cell BK529.out 7).trans rfl
        have hfz17_0 := blk_frozen BK529.out 0
        have hfz17_1 := blk_frozen BK529.out 1
        have hfz17_2 := blk_frozen BK529.out 2
        have hfz17_3 := blk_frozen BK529.out 3
        have hfz17_4 := blk_frozen BK529.out 4
        have hfz17_5 := blk_frozen BK529.out 5
        have hfz17_6 := blk_frozen BK529.out 6
        have hfz17_7 := blk_frozen BK529.out 7
        go_wp2_with (first | ((with_reducible refine gate_callee (f := 99) rfl ?_); refine goesL_ (some 8) rfl rfl Try.func99 (by kernel_rfl) rfl #[.agg #[.int .i64 a0_0, .int .i64 a0_1, .int .i64 a0_2, .int .i64 a0_3, .int .i64 a0_4, .int .i64 a0_5, .int .i64 a0_6, .int .u8 a0_7]] rfl (by (try simp only [List.map_toArray, List.map_cons, List.map_nil]); first | done | rfl | (simp only [List.length_drop, List.length_take]; rfl)) ?_; (with_reducible refine (letterbagref32_Right.calls a0_0 a0_1 a0_2 a0_3 a0_4 a0_5 a0_6 a0_7 true _ A6.out).mono ?_); rintro e w18 ⟨rfl, hb⟩; refine ⟨_, rfl, ?_⟩; have n0_ := Aside0.mk (blk_below (g := gb529) (o := .cells #[.int .i64 a0_0, .int .i64 a0_1, .int .i64 a0_2, .int .i64 a0_3, .int .i64 a0_4, .int .i64 a0_5, .int .i64 a0_6, .int .u8 a0_7] 23 (0, 0)) (by (with_reducible repeat (first | refine blk_drewN ?_ _ | refine blk_drew ?_ | refine blk_alloc ?_ _)); exact BK529.out) hb); have n1_ := Aside0.mk (blk_below (g := gb530) (o := .cells #[.int .i64 0, .int .i64 0] 120 (0, 0)) (by (with_reducible repeat (first | refine blk_drewN ?_ _ | refine blk_drew ?_ | refine blk_alloc ?_ _)); exact BK530.out) hb); have n2_ := Aside0.mk (below_step (by repeat (first | (with_reducible first | exact HB.out | apply below_alloc | apply pw_below_drewN | apply below_drew1 | refine below_set ?_ GE529.out | refine below_set ?_ GE530.out) | exact HB.out)) hb); clear BK529; clear BK530; clear HB; have BK529 := n0_; have BK530 := n1_; have HB := n2_; clear n0_ n1_ n2_; (try clear hb); (try clear hb2); (try clear hk); (try clear hi)) | (go_at_call 100; (with_reducible refine (letterbagref32_in.calls a1 0 730484 false _ A8.out).mono ?_); rintro e w' ⟨rfl, ⟨nd, rfl⟩⟩))
        go_meet
        case rel => exact ⟨_, (true), (by first | rfl | (simp; done) | (simp [*]; done)), H', ⟨by first | omega | exact Nat.le_refl _⟩, ⟨by (with_reducible repeat (first | refine blk_drewN ?_ _ | refine blk_drew ?_ | refine blk_alloc ?_ _)); exact BK529.out⟩, ⟨by (with_reducible repeat (first | refine blk_drewN ?_ _ | refine blk_drew ?_ | refine blk_alloc ?_ _)); exact BK530.out⟩, ⟨by repeat (first | (with_reducible first | exact HB.out | apply below_alloc | apply pw_below_drewN | apply below_drew1 | refine below_set ?_ GE529.out | refine below_set ?_ GE530.out) | exact HB.out)⟩⟩
    · replace c7 := Bool.eq_false_iff.mpr c7
      subst c7
      have H1 : (letterbagref32_On.j0 k a1 true a0_0 a0_1 a0_2 a0_3 a0_4 a0_5 a0_6 a0_7) = some (r1, r2, r3) := by rw [if_neg (show ¬ (false = true) by decide)] at H; exact H
      clear H
      have H := H1
      clear H1
      have H' := Aside0.mk H
      clear H
      have hnb19 := NB529_530.out
      have hnc19 := NB530_529.out
      have hcz20_0 : w5.cell? ⟨gb529, 0, none⟩ = some (.int .i64 a0_0) := (blk_cell BK529.out 0).trans rfl
      have hcz20_1 : w5.cell? ⟨gb529, 1, none⟩ = some (.int .i64 a0_1) := (blk_cell BK529.out 1).trans rfl
      have hcz20_2 : w5.cell? ⟨gb529, 2, none⟩ = some (.int .i64 a0_2) := (blk_cell BK529.out 2).trans rfl
      have hcz20_3 : w5.cell? ⟨gb529, 3, none⟩ = some (.int .i64 a0_3) := (blk_cell BK529.out 3).trans rfl
      have hcz20_4 : w5.cell? ⟨gb529, 4, none⟩ = some (.int .i64 a0_4) := (blk_cell BK529.out 4).trans rfl
      have hcz20_5 : w5.cell? ⟨gb529, 5, none⟩ = some (.int .i64 a0_5) := (blk_cell BK529.out 5).trans rfl
      have hcz20_6 : w5.cell? ⟨gb529, 6, none⟩ = some (.int .i64 a0_6) := (blk_cell BK529.out 6).trans rfl
      have hcz20_7 : w5.cell? ⟨gb529, 7, none⟩ = some (.int .u8 a0_7) := (blk_cell BK529.out 7).trans rfl
      have hfz20_0 := blk_frozen BK529.out 0
      have hfz20_1 := blk_frozen BK529.out 1
      have hfz20_2 := blk_frozen BK529.out 2
      have hfz20_3 := blk_frozen BK529.out 3
      have hfz20_4 := blk_frozen BK529.out 4
      have hfz20_5 := blk_frozen BK529.out 5
      have hfz20_6 := blk_frozen BK529.out 6
      have hfz20_7 := blk_frozen BK529.out 7
      go_wp2_with (first | ((with_reducible refine gate_callee (f := 99) rfl ?_); refine goesL_ (some 8) rfl rfl Try.func99 (by kernel_rfl) rfl #[.agg #[.int .i64 a0_0, .int .i64 a0_1, .int .i64 a0_2, .int .i64 a0_3, .int .i64 a0_4, .int .i64 a0_5, .int .i64 a0_6, .int .u8 a0_7]] rfl (by (try simp only [List.map_toArray, List.map_cons, List.map_nil]); first | done | rfl | (simp only [List.length_drop, List.length_take]; rfl)) ?_; (with_reducible refine (letterbagref32_Right.calls a0_0 a0_1 a0_2 a0_3 a0_4 a0_5 a0_6 a0_7 false _ A6.out).mono ?_); rintro e w21 ⟨rfl, hb⟩; refine ⟨_, rfl, ?_⟩; have n0_ := Aside0.mk (blk_below (g := gb529) (o := .cells #[.int .i64 a0_0, .int .i64 a0_1, .int .i64 a0_2, .int .i64 a0_3, .int .i64 a0_4, .int .i64 a0_5, .int .i64 a0_6, .int .u8 a0_7] 23 (0, 0)) (by (with_reducible repeat (first | refine blk_drewN ?_ _ | refine blk_drew ?_ | refine blk_alloc ?_ _)); exact BK529.out) hb); have n1_ := Aside0.mk (blk_below (g := gb530) (o := .cells #[.int .i64 0, .int .i64 0] 120 (0, 0)) (by (with_reducible repeat (first | refine blk_drewN ?_ _ | refine blk_drew ?_ | refine blk_alloc ?_ _)); exact BK530.out) hb); have n2_ := Aside0.mk (below_step (by repeat (first | (with_reducible first | exact HB.out | apply below_alloc | apply pw_below_drewN | apply below_drew1 | refine below_set ?_ GE529.out | refine below_set ?_ GE530.out) | exact HB.out)) hb); clear BK529; clear BK530; clear HB; have BK529 := n0_; have BK530 := n1_; have HB := n2_; clear n0_ n1_ n2_; (try clear hb); (try clear hb2); (try clear hk); (try clear hi)))
      go_meet
      case rel => exact ⟨_, (true), (by first | rfl | (simp; done) | (simp [*]; done)), H', ⟨by first | omega | exact Nat.le_refl _⟩, ⟨by (with_reducible repeat (first | refine blk_drewN ?_ _ | refine blk_drew ?_ | refine blk_alloc ?_ _)); exact BK529.out⟩, ⟨by (with_reducible repeat (first | refine blk_drewN ?_ _ | refine blk_drew ?_ | refine blk_alloc ?_ _)); exact BK530.out⟩, ⟨by repeat (first | (with_reducible first | exact HB.out | apply below_alloc | apply pw_below_drewN | apply below_drew1 | refine below_set ?_ GE529.out | refine below_set ?_ GE530.out) | exact HB.out)⟩⟩
  case rest =>
    clear HC3
    try clear c1
    try clear p2
    try clear c6
    try clear c7
    try clear c9
    try clear c11
    try clear c16
    try clear c19
    try clear hcz12_0
    try clear hcz12_1
    try clear hcz12_2
    try clear hcz12_3
    try clear hcz12_4
    try clear hcz12_5
    try clear hcz12_6
    try clear hcz12_7
    try clear hcz14_0
    try clear hcz14_1
    try clear hcz14_2
    try clear hcz14_3
    try clear hcz14_4
    try clear hcz14_5
    try clear hcz14_6
    try clear hcz14_7
    try clear hcz17_0
    try clear hcz17_1
    try clear hcz17_2
    try clear hcz17_3
    try clear hcz17_4
    try clear hcz17_5
    try clear hcz17_6
    try clear hcz17_7
    try clear hcz20_0
    try clear hcz20_1
    try clear hcz20_2
    try clear hcz20_3
    try clear hcz20_4
    try clear hcz20_5
    try clear hcz20_6
    try clear hcz20_7
    try clear hfz12_0
    try clear hfz12_1
    try clear hfz12_2
    try clear hfz12_3
    try clear hfz12_4
    try clear hfz12_5
    try clear hfz12_6
    try clear hfz12_7
    try clear hfz14_0
    try clear hfz14_1
    try clear hfz14_2
    try clear hfz14_3
    try clear hfz14_4
    try clear hfz14_5
    try clear hfz14_6
    try clear hfz14_7
    try clear hfz17_0
    try clear hfz17_1
    try clear hfz17_2
    try clear hfz17_3
    try clear hfz17_4
    try clear hfz17_5
    try clear hfz17_6
    try clear hfz17_7
    try clear hfz20_0
    try clear hfz20_1
    try clear hfz20_2
    try clear hfz20_3
    try clear hfz20_4
    try clear hfz20_5
    try clear hfz20_6
    try clear hfz20_7
    obtain ⟨kq, x21_2, rfl, HA, HJ2, BK529, BK530, HB⟩ := hcut
    cases kq with
    | zero => exact absurd HA.out (by simp [letterbagref32_On.j0])
    | succ kj2 =>
      have H := HA.out
      clear HA
      simp only [letterbagref32_On.j0] at H
      by_cases c22 : x21_2 = true
      · subst c22
        have H1 : (some (0, 0, false)) = some (r1, r2, r3) := by rw [if_pos rfl] at H; exact H
        clear H
        have H := H1
        clear H1
        simp only [Option.some.injEq, Prod.mk.injEq] at H
        obtain ⟨rfl, rfl, rfl⟩ := H
        have hnb23 := NB530_529.out
        have hnc23 := NB529_530.out
        have hcz24_0 : wc.cell? ⟨gb530, 0, none⟩ = some (.int .i64 0) := (blk_cell BK530.out 0).trans rfl
        have hcz24_1 : wc.cell? ⟨gb530, 1, none⟩ = some (.int .i64 0) := (blk_cell BK530.out 1).trans rfl
        have hfz24_0 := blk_frozen BK530.out 0
        have hfz24_1 := blk_frozen BK530.out 1
        go_wp2
        refine bodyPost_ret (results_ct rfl _ _ gb530 120 #[.int .i64 0, .int .i64 0] (0, 0) _ rfl (by (with_reducible repeat (first | refine blk_drewN ?_ _ | refine blk_drew ?_ | refine blk_alloc ?_ _)); refine blk_put (cs := #[.int .i64 0, .int .i64 0]) ?_ 1 _ rfl; (with_reducible repeat (first | refine blk_drewN ?_ _ | refine blk_drew ?_ | refine blk_alloc ?_ _)); refine blk_put (cs := #[.int .i64 0, .int .i64 0]) ?_ 0 _ rfl; (with_reducible repeat (first | refine blk_drewN ?_ _ | refine blk_drew ?_ | refine blk_alloc ?_ _)); exact BK530.out) Try.underlying120 rfl (by kernel_rfl)) rfl ?_
        exact ⟨by first | rfl | (simp [errW_none, errW_some] <;> rfl) | (simp [*, errW_none, errW_some] <;> rfl), by repeat (first | (with_reducible first | exact HB.out | apply below_alloc | apply pw_below_drewN | apply below_drew1 | refine below_set ?_ GE529.out | refine below_set ?_ GE530.out) | exact HB.out)⟩
      · replace c22 := Bool.eq_false_iff.mpr c22
        subst c22
        have H1 : (if (wrap64 ((wrap64 ((wrap64 (a1 * 1440)) + a0_3)) - a0_5)) < 0 then (some (0, 0, false)) else (if (wrap64 ((wrap64 ((wrap64 (a1 * 1440)) + a0_3)) + a0_4)) > 1051898399 then (some (0, 0, false)) else (some (wrap64 ((wrap64 (a1 * 1440)) + a0_3), wrap64 ((wrap64 ((wrap64 (a1 * 1440)) + a0_3)) + a0_4), true)))) = some (r1, r2, r3) := by rw [if_neg (show ¬ (false = true) by decide)] at H; exact H
        clear H
        have H := H1
        clear H1
        by_cases c25 : (wrap64 ((wrap64 ((wrap64 (a1 * 1440)) + a0_3)) - a0_5)) < 0
        · rw [if_pos c25] at H
          have c25b0 : decide ((wrap64 ((wrap64 ((wrap64 (a1 * 1440)) + a0_3)) - a0_5)) < 0) = true := decide_eq_true c25
          clear c25
          simp only [Option.some.injEq, Prod.mk.injEq] at H
          obtain ⟨rfl, rfl, rfl⟩ := H
          have hnb26 := NB529_530.out
          have hnc26 := NB530_529.out
          have hcz27_0 : wc.cell? ⟨gb529, 0, none⟩ = some (.int .i64 a0_0) := (blk_cell BK529.out 0).trans rfl
          have hcz27_1 : wc.cell? ⟨gb529, 1, none⟩ = some (.int .i64 a0_1) := (blk_cell BK529.out 1).trans rfl
          have hcz27_2 : wc.cell? ⟨gb529, 2, none⟩ = some (.int .i64 a0_2) := (blk_cell BK529.out 2).trans rfl
          have hcz27_3 : wc.cell? ⟨gb529, 3, none⟩ = some (.int .i64 a0_3) := (blk_cell BK529.out 3).trans rfl
          have hcz27_4 : wc.cell? ⟨gb529, 4, none⟩ = some (.int .i64 a0_4) := (blk_cell BK529.out 4).trans rfl
          have hcz27_5 : wc.cell? ⟨gb529, 5, none⟩ = some (.int .i64 a0_5) := (blk_cell BK529.out 5).trans rfl
          have hcz27_6 : wc.cell? ⟨gb529, 6, none⟩ = some (.int .i64 a0_6) := (blk_cell BK529.out 6).trans rfl
          have hcz27_7 : wc.cell? ⟨gb529, 7, none⟩ = some (.int .u8 a0_7) := (blk_cell BK529.out 7).trans rfl
          have hfz27_0 := blk_frozen BK529.out 0
          have hfz27_1 := blk_frozen BK529.out 1
          have hfz27_2 := blk_frozen BK529.out 2
          have hfz27_3 := blk_frozen BK529.out 3
          have hfz27_4 := blk_frozen BK529.out 4
          have hfz27_5 := blk_frozen BK529.out 5
          have hfz27_6 := blk_frozen BK529.out 6
          have hfz27_7 := blk_frozen BK529.out 7
          have hcz28_0 : wc.cell? ⟨gb530, 0, none⟩ = some (.int .i64 0) := (blk_cell BK530.out 0).trans rfl
          have hcz28_1 : wc.cell? ⟨gb530, 1, none⟩ = some (.int .i64 0) := (blk_cell BK530.out 1).trans rfl
          have hfz28_0 := blk_frozen BK530.out 0
          have hfz28_1 := blk_frozen BK530.out 1
          go_wp2
          refine bodyPost_ret (results_ct rfl _ _ gb530 120 #[.int .i64 0, .int .i64 0] (0, 0) _ rfl (by (with_reducible repeat (first | refine blk_drewN ?_ _ | refine blk_drew ?_ | refine blk_alloc ?_ _)); refine blk_put (cs := #[.int .i64 0, .int .i64 0]) ?_ 1 _ rfl; (with_reducible repeat (first | refine blk_drewN ?_ _ | refine blk_drew ?_ | refine blk_alloc ?_ _)); refine blk_put (cs := #[.int .i64 0, .int .i64 0]) ?_ 0 _ rfl; (with_reducible repeat (first | refine blk_drewN ?_ _ | refine blk_drew ?_ | refine blk_alloc ?_ _)); exact BK530.out) Try.underlying120 rfl (by kernel_rfl)) rfl ?_
          exact ⟨by first | rfl | (simp [errW_none, errW_some] <;> rfl) | (simp [*, errW_none, errW_some] <;> rfl), by repeat (first | (with_reducible first | exact HB.out | apply below_alloc | apply pw_below_drewN | apply below_drew1 | refine below_set ?_ GE529.out | refine below_set ?_ GE530.out) | exact HB.out)⟩
        · rw [if_neg c25] at H
          have c25b0 : decide ((wrap64 ((wrap64 ((wrap64 (a1 * 1440)) + a0_3)) - a0_5)) < 0) = false := decide_eq_false c25
          clear c25
          by_cases c29 : (wrap64 ((wrap64 ((wrap64 (a1 * 1440)) + a0_3)) + a0_4)) > 1051898399
          · rw [if_pos c29] at H
            have c29b0 : decide (1051898399 < (wrap64 ((wrap64 ((wrap64 (a1 * 1440)) + a0_3)) + a0_4))) = true := decide_eq_true c29
            clear c29
            simp only [Option.some.injEq, Prod.mk.injEq] at H
            obtain ⟨rfl, rfl, rfl⟩ := H
            have hnb30 := NB529_530.out
            have hnc30 := NB530_529.out
            have hcz31_0 : wc.cell? ⟨gb529, 0, none⟩ = some (.int .i64 a0_0) := (blk_cell BK529.out 0).trans rfl
            have hcz31_1 : wc.cell? ⟨gb529, 1, none⟩ = some (.int .i64 a0_1) := (blk_cell BK529.out 1).trans rfl
            have hcz31_2 : wc.cell? ⟨gb529, 2, none⟩ = some (.int .i64 a0_2) := (blk_cell BK529.out 2).trans rfl
            have hcz31_3 : wc.cell? ⟨gb529, 3, none⟩ = some (.int .i64 a0_3) := (blk_cell BK529.out 3).trans rfl
            have hcz31_4 : wc.cell? ⟨gb529, 4, none⟩ = some (.int .i64 a0_4) := (blk_cell BK529.out 4).trans rfl
            have hcz31_5 : wc.cell? ⟨gb529, 5, none⟩ = some (.int .i64 a0_5) := (blk_cell BK529.out 5).trans rfl
            have hcz31_6 : wc.cell? ⟨gb529, 6, none⟩ = some (.int .i64 a0_6) := (blk_cell BK529.out 6).trans rfl
            have hcz31_7 : wc.cell? ⟨gb529, 7, none⟩ = some (.int .u8 a0_7) := (blk_cell BK529.out 7).trans rfl
            have hfz31_0 := blk_frozen BK529.out 0
            have hfz31_1 := blk_frozen BK529.out 1
            have hfz31_2 := blk_frozen BK529.out 2
            have hfz31_3 := blk_frozen BK529.out 3
            have hfz31_4 := blk_frozen BK529.out 4
            have hfz31_5 := blk_frozen BK529.out 5
            have hfz31_6 := blk_frozen BK529.out 6
            have hfz31_7 := blk_frozen BK529.out 7
            have hcz32_0 : wc.cell? ⟨gb530, 0, none⟩ = some (.int .i64 0) := (blk_cell BK530.out 0).trans rfl
            have hcz32_1 : wc.cell? ⟨gb530, 1, none⟩ = some (.int .i64 0) := (blk_cell BK530.out 1).trans rfl
            have hfz32_0 := blk_frozen BK530.out 0
            have hfz32_1 := blk_frozen BK530.out 1
            go_wp2
            refine bodyPost_ret (results_ct rfl _ _ gb530 120 #[.int .i64 0, .int .i64 0] (0, 0) _ rfl (by (with_reducible repeat (first | refine blk_drewN ?_ _ | refine blk_drew ?_ | refine blk_alloc ?_ _)); refine blk_put (cs := #[.int .i64 0, .int .i64 0]) ?_ 1 _ rfl; (with_reducible repeat (first | refine blk_drewN ?_ _ | refine blk_drew ?_ | refine blk_alloc ?_ _)); refine blk_put (cs := #[.int .i64 0, .int .i64 0]) ?_ 0 _ rfl; (with_reducible repeat (first | refine blk_drewN ?_ _ | refine blk_drew ?_ | refine blk_alloc ?_ _)); exact BK530.out) Try.underlying120 rfl (by kernel_rfl)) rfl ?_
            exact ⟨by first | rfl | (simp [errW_none, errW_some] <;> rfl) | (simp [*, errW_none, errW_some] <;> rfl), by repeat (first | (with_reducible first | exact HB.out | apply below_alloc | apply pw_below_drewN | apply below_drew1 | refine below_set ?_ GE529.out | refine below_set ?_ GE530.out) | exact HB.out)⟩
          · rw [if_neg c29] at H
            have c29b0 : decide (1051898399 < (wrap64 ((wrap64 ((wrap64 (a1 * 1440)) + a0_3)) + a0_4))) = false := decide_eq_false c29
            clear c29
            simp only [Option.some.injEq, Prod.mk.injEq] at H
            obtain ⟨rfl, rfl, rfl⟩ := H
            have hnb33 := NB529_530.out
            have hnc33 := NB530_529.out
            have hcz34_0 : wc.cell? ⟨gb529, 0, none⟩ = some (.int .i64 a0_0) := (blk_cell BK529.out 0).trans rfl
            have hcz34_1 : wc.cell? ⟨gb529, 1, none⟩ = some (.int .i64 a0_1) := (blk_cell BK529.out 1).trans rfl
            have hcz34_2 : wc.cell? ⟨gb529, 2, none⟩ = some (.int .i64 a0_2) := (blk_cell BK529.out 2).trans rfl
            have hcz34_3 : wc.cell? ⟨gb529, 3, none⟩ = some (.int .i64 a0_3) := (blk_cell BK529.out 3).trans rfl
            have hcz34_4 : wc.cell? ⟨gb529, 4, none⟩ = some (.int .i64 a0_4) := (blk_cell BK529.out 4).trans rfl
            have hcz34_5 : wc.cell? ⟨gb529, 5, none⟩ = some (.int .i64 a0_5) := (blk_cell BK529.out 5).trans rfl
            have hcz34_6 : wc.cell? ⟨gb529, 6, none⟩ = some (.int .i64 a0_6) := (blk_cell BK529.out 6).trans rfl
            have hcz34_7 : wc.cell? ⟨gb529, 7, none⟩ = some (.int .u8 a0_7) := (blk_cell BK529.out 7).trans rfl
            have hfz34_0 := blk_frozen BK529.out 0
            have hfz34_1 := blk_frozen BK529.out 1
            have hfz34_2 := blk_frozen BK529.out 2
            have hfz34_3 := blk_frozen BK529.out 3
            have hfz34_4 := blk_frozen BK529.out 4
            have hfz34_5 := blk_frozen BK529.out 5
            have hfz34_6 := blk_frozen BK529.out 6
            have hfz34_7 := blk_frozen BK529.out 7
            have hcz35_0 : wc.cell? ⟨gb530, 0, none⟩ = some (.int .i64 0) := (blk_cell BK530.out 0).trans rfl
            have hcz35_1 : wc.cell? ⟨gb530, 1, none⟩ = some (.int .i64 0) := (blk_cell BK530.out 1).trans rfl
            have hfz35_0 := blk_frozen BK530.out 0
            have hfz35_1 := blk_frozen BK530.out 1
            go_wp2
            refine bodyPost_ret (results_ct rfl _ _ gb530 120 #[.int .i64 (wrap64 ((wrap64 (a1 * 1440)) + a0_3)), .int .i64 (wrap64 ((wrap64 ((wrap64 (a1 * 1440)) + a0_3)) + a0_4))] (0, 0) _ rfl (by (with_reducible repeat (first | refine blk_drewN ?_ _ | refine blk_drew ?_ | refine blk_alloc ?_ _)); refine blk_put (cs := #[.int .i64 (wrap64 ((wrap64 (a1 * 1440)) + a0_3)), .int .i64 0]) ?_ 1 _ rfl; (with_reducible repeat (first | refine blk_drewN ?_ _ | refine blk_drew ?_ | refine blk_alloc ?_ _)); refine blk_put (cs := #[.int .i64 0, .int .i64 0]) ?_ 0 _ rfl; (with_reducible repeat (first | refine blk_drewN ?_ _ | refine blk_drew ?_ | refine blk_alloc ?_ _)); exact BK530.out) Try.underlying120 rfl (by kernel_rfl)) rfl ?_
            exact ⟨by first | rfl | (simp [errW_none, errW_some] <;> rfl) | (simp [*, errW_none, errW_some] <;> rfl), by repeat (first | (with_reducible first | exact HB.out | apply below_alloc | apply pw_below_drewN | apply below_drew1 | refine below_set ?_ GE529.out | refine below_set ?_ GE530.out) | exact HB.out)⟩

end Go.Proofs.Ytdpadeklociinaa.PA
