import Derived.Test.YtdpadeklociinaaHNetW
import Derived.Test.YtdpadeklociinaaHPureLeast
import Derived.Test.YtdpadeklociinaaHCut
import Derived.Test.YtdpadeklociinaaHMap
import Derived.Deep.RegionHeld3
set_option linter.unusedVariables false
set_option linter.unusedSimpArgs false
namespace Go.Proofs.Ytdpadeklociinaa.PA
open Go.RowKit Go.Maps Go.Proofs.YtdpadeklociinaaW.PrintWords Go.Proofs.YtdpadeklociinaaW.PrintLast Go.Proofs.YtdpadeklociinaaW.PrintMore Go.Proofs.Ytdpadeklociinaa
theorem rd_arrive' {l0 : List Int} {l1 : List S23} (a t p : Int) (hp : p ∈ l0) : rd ((netOf l0 l1).arriveL a t) ((l0.idxOf p : Nat) : Int) = Net.enc ((netOf l0 l1).early a t p) := by
  unfold Net.Nw.arriveL
  rw [show (netOf l0 l1).plants = l0 from rfl]
  have h := List.idxOf_lt_length_of_mem hp
  rw [rd_get (by rw [List.length_map]; exact h), List.getElem_map, List.getElem_idxOf]
theorem map_insert {ops : Array Oper} {rest : List Oper} {o : Oper} {a : Act} {Q : Exit → Act → World → Prop} {w : World} (hg : o.guard = none) (x y v : Operand) (hop : o.op = Op.insert 53 x y v) (b n : Nat) (m : Int → Int) (hx : a.eval x = .map (some b)) (h : MapIs w b n m) (hn : n < 4000000000) (p c : Int) (hy : a.eval y = .int .i64 p) (hp : I64 p) (hv : a.eval v = .int .i64 c) (hc : I64 c)
    (hK : ∀ w', MapIs w' b (n + 1) (fun q => if q = p then c else m q) → w.grownBy w' (some b) → wpList Try.prog ops Q rest (a.put o.dst undef) w') : wpList Try.prog ops Q (o :: rest) a w := by
  obtain ⟨D, h1, h2, h3⟩ := h
  refine wpList_plain hg fun K' hK' => ?_
  obtain ⟨w', hrun, r1, r2⟩ := h1.update law3 Try.underlying53 (by unfold maxLen; omega) (keyOf_int_mk Try.underlying3 hp.wf) (plainElem_int Try.underlying3 hc.wf)
  unfold Oper.wp
  simp [execOp, hop, hx, hy, hv, hrun, Result.andThen]
  refine hK' _ _ (hK w' ⟨_, r1, h2.put _ _, fun q => ?_⟩ r2)
  show _ = DataW.lit (Lit.int IntKind.i64 (if q = p then c else m q))
  by_cases e : q = p
  · subst e
    rw [if_pos rfl]
    exact atKey_put_same h2 (by trivial) _ _
  · rw [if_neg e, ← h3 q]
    exact atKey_put_other (fun e' => e (by injection e')) _ _
set_option maxRecDepth 100000 in
set_option maxHeartbeats 16000000 in
theorem RouteLeast.calls (k : Nat) (A0_0 : Option Addr) (c0_0 : Nat) (l0_0 : List Int) (A0_1 : Option Addr) (c0_1 : Nat) (l0_1 : List S23) (a1 : Int) (a2 : Int) (a3 : Int) (A4 : Option Addr) (c4 : Nat) (l4 : List S45) (r : Bool) (w : World) (hr0_0 : Kd.C (Kd.int .i64) w A0_0 l0_0.length l0_0) (hc0_0 : l0_0.length ≤ c0_0) (hr0_1 : Kd.C k23 w A0_1 l0_1.length l0_1) (hc0_1 : l0_1.length ≤ c0_1) (hr4 : Kd.C k45 w A4 l4.length l4) (hc4 : l4.length ≤ c4) (h : netI l0_0 l0_1 = true ∧ r = true) :
    Calls Try.prog 9 #[.agg #[.slice A0_0 l0_0.length c0_0, .slice A0_1 l0_1.length c0_1], .int .i64 a1, .int .i64 a2, .int .i64 a3, .slice A4 l4.length c4] w fun e w' => e = .returned (.bool r) ∧ Below w.heap.size w w' := by
  obtain ⟨hI, rfl⟩ := h
  have HI := Aside0.mk hI
  have HR0 := Aside0.mk hr0_0
  have HR1 := Aside0.mk hr0_1
  have HR4 := Aside0.mk hr4
  clear hr0_0 hr0_1 hI hr4
  have hmm := @run_makeMap Try.prog
  have N0 := Aside0.mk (NetW.new A0_0 c0_0 l0_0 A0_1 c0_1 l0_1 w)
  go_enter Try.func9, Try.ntmps9
  rcases fits_f HI.out a1 a2 a3 0 with hf | ⟨hf, F⟩
  · have HF := Aside0.mk hf
    clear hf
    go_wp2_with (first | (go_at_call 21; refine (letterbaglaw33_awake.calls 10 true _ awake_f).mono ?_; rintro e w2 ⟨rfl, hb⟩; have N1 := Aside0.mk (N0.out.next hb); clear hb; obtain ⟨m0, m1, m2⟩ := N1.out.cells) | (go_at_call 22; refine (letterbaglaw33_fits.calls (10 + 0) A0_0 c0_0 l0_0 A0_1 c0_1 l0_1 a1 a2 a3 false _ (Kd.C_below HR0.out N1.out.below) hc0_0 (Kd.C_below HR1.out N1.out.below) hc0_1 HF.out).mono ?_; rintro e w3 ⟨rfl, hb⟩; have N2 := Aside0.mk (N1.out.next hb); clear hb; obtain ⟨o0, o1, o2⟩ := N2.out.cells))
    go_ret
    exact ⟨rfl, N2.out.below⟩
  have HF := Aside0.mk hf
  have HP := Aside0.mk F
  clear hf F
  have h9 := HP.out.nine
  by_cases h20 : (20 : Int) < (l4.length : Int)
  · have d20 := decide_eq_true h20
    go_wp2_with (first | (go_at_call 21; refine (letterbaglaw33_awake.calls 10 true _ awake_f).mono ?_; rintro e w2 ⟨rfl, hb⟩; have N1 := Aside0.mk (N0.out.next hb); clear hb; obtain ⟨m0, m1, m2⟩ := N1.out.cells) | (go_at_call 22; refine (letterbaglaw33_fits.calls (10 + 0) A0_0 c0_0 l0_0 A0_1 c0_1 l0_1 a1 a2 a3 true _ (Kd.C_below HR0.out N1.out.below) hc0_0 (Kd.C_below HR1.out N1.out.below) hc0_1 HF.out).mono ?_; rintro e w3 ⟨rfl, hb⟩; have N2 := Aside0.mk (N1.out.next hb); clear hb; obtain ⟨o0, o1, o2⟩ := N2.out.cells))
    go_ret
    exact ⟨rfl, N2.out.below⟩
  have d20 := decide_eq_false h20
  have ht0 := HP.out.t0
  have ht1 := HP.out.t1
  obtain ⟨qf, hqf⟩ : ∃ q, q = l0_0.idxOf a1 := ⟨_, rfl⟩
  obtain ⟨qt, hqt⟩ : ∃ q, q = l0_0.idxOf a2 := ⟨_, rfl⟩
  have hqfl : qf < l0_0.length := by rw [hqf]; exact List.idxOf_lt_length_of_mem HP.out.inA
  have hqtl : qt < l0_0.length := by rw [hqt]; exact List.idxOf_lt_length_of_mem HP.out.inB
  have HPO : Aside0 (letterbaglaw33_place.f 10 l0_0 l0_1 a1 = some (qf : Int)) := ⟨by rw [place_f a1 l0_0 l0_1 (by omega) 10 (by omega), placeV_pos HP.out.inA, hqf]⟩
  have HPT : Aside0 (letterbaglaw33_place.f 10 l0_0 l0_1 a2 = some (qt : Int)) := ⟨by rw [place_f a2 l0_0 l0_1 (by omega) 10 (by omega), placeV_pos HP.out.inB, hqt]⟩
  obtain ⟨X, hX⟩ : ∃ X, X = (netOf l0_0 l0_1).arriveL a1 a3 := ⟨_, rfl⟩
  have HX : Aside0 (route_Arrive.f l0_0 l0_1 a1 a3 = some (X, 0)) := ⟨by rw [hX]; exact arrive_f HI.out HP.out.valid HP.out.inA ht0 ht1⟩
  have LX : Aside0 (X.length = l0_0.length) := ⟨by rw [hX]; unfold Net.Nw.arriveL; simp [netOf]⟩
  obtain ⟨be, hbe⟩ : ∃ m, m = Net.enc ((netOf l0_0 l0_1).early a1 a3 a2) := ⟨_, rfl⟩
  have HXF : Aside0 (rd X (qf : Int) = a3) := ⟨by rw [hX, hqf, rd_arrive' a1 a3 a1 HP.out.inA, Net.Nw.early_self]; rfl⟩
  have HXT : Aside0 (rd X (qt : Int) = be) := ⟨by rw [hX, hqt, hbe]; exact rd_arrive' a1 a3 a2 HP.out.inB⟩
  obtain ⟨W, hW⟩ : ∃ W, W = (wayV (netOf l0_0 l0_1) a1 a2 a3).1 := ⟨_, rfl⟩
  obtain ⟨we, hwe⟩ : ∃ e, e = (wayV (netOf l0_0 l0_1) a1 a2 a3).2 := ⟨_, rfl⟩
  have HWY : Aside0 (route_Way.f l0_0 l0_1 a1 a2 a3 = some (W, we)) := ⟨by rw [way_f HI.out HP.out.valid HP.out.inA HP.out.inB ht0 ht1, hW, hwe]⟩
  have hW9 : W.length ≤ 9 := by
    rw [hW]
    have h1 := wayV_len (p := a1) (q := a2) (t := a3) HP.out.valid HP.out.inA
    have h2 : (netOf l0_0 l0_1).plants.length = l0_0.length := rfl
    omega
  obtain ⟨is, his⟩ : ∃ b, b = Net.rightGo (netOf l0_0 l0_1) a2 a1 a3 (l4.map st3) := ⟨_, rfl⟩
  have HIS : Aside0 (route_Right.f l0_0 l0_1 a1 a2 a3 l4 = some is) := ⟨by rw [right_f HI.out HP.out.valid HP.out.inA HP.out.inB ht0 ht1, his]⟩
  obtain ⟨ot, hot⟩ : ∃ t, t = Net.endOf a3 (l4.map st3) := ⟨_, rfl⟩
  have HTOP : Aside0 (is = true → a3 ≤ ot ∧ ot ≤ 1051898399) := ⟨fun h => by rw [hot]; exact Net.right_top HP.out.valid _ _ _ ht1 (by rw [← his]; exact h)⟩
  have HNO : Aside0 ((netOf l0_0 l0_1).early a1 a3 a2 = none → W = [] ∧ we = 6 ∧ be = -1 ∧ (is = true → 86400 < ot - a3)) := ⟨fun h => by
    refine ⟨?_, ?_, ?_, fun hi => ?_⟩
    · rw [hW]; unfold wayV; rw [h]
    · rw [hwe]; unfold wayV; rw [h]
    · rw [hbe, h]; rfl
    · rw [hot]; exact HP.out.valid.none_far HP.out.inA h _ (by rw [← his]; exact hi)⟩
  have HYES : Aside0 (∀ e, (netOf l0_0 l0_1).early a1 a3 a2 = some e → W = ((netOf l0_0 l0_1).way a1 a2 a3 e).map stopOf ∧ we = 0 ∧ be = e ∧ (is = true → e ≤ ot ∧ (ot = e → W.length ≤ l4.length ∧ (l4.length = W.length → letterbaglaw33_less.f 300 l4 W = some false)))) := ⟨fun e h => by
    have hWe : W = ((netOf l0_0 l0_1).way a1 a2 a3 e).map stopOf := by rw [hW]; unfold wayV; rw [h]
    refine ⟨hWe, ?_, ?_, fun hi => ?_⟩
    · rw [hwe]; unfold wayV; rw [h]
    · rw [hbe, h]; rfl
    · obtain ⟨g1, g2⟩ := HP.out.valid.least HP.out.inA h (l4.map st3) (by rw [← his]; exact hi)
      rw [← hot] at g1 g2
      refine ⟨g1, fun he => ?_⟩
      obtain ⟨g3, g4⟩ := g2 he
      rw [List.length_map] at g3 g4
      refine ⟨by rw [hWe, List.length_map]; exact g3, fun hl => ?_⟩
      rw [less_f l4 W hl (by omega), ← ids_map l4, ← ids_map W, hWe, st3_way]
      exact congrArg some (g4 (by rw [hl, hWe, List.length_map]))⟩
  have HOT : Aside0 ((l4.length = 0 → ot = a3) ∧ (0 < l4.length → (rd_T45 l4 ((l4.length : Int) - 1)).f2 = ot)) := ⟨⟨fun h => by rw [hot, List.eq_nil_of_length_eq_zero h]; rfl, fun h => by rw [hot]; exact endOf_at a3 l4 h⟩⟩
  have hqf0 : (0 : Int) ≤ qf := by omega
  have hqt0 : (0 : Int) ≤ qt := by omega
  have hqfX : (qf : Int) < (X.length : Int) := by rw [LX.out]; omega
  have hqtX : (qt : Int) < (X.length : Int) := by rw [LX.out]; omega
  have hqfL : (qf : Int) < (l0_0.length : Int) := by omega
  have hqtL : (qt : Int) < (l0_0.length : Int) := by omega
  have hqft : ((qf : Int)).toNat = qf := by omega
  have hqtt : ((qt : Int)).toNat = qt := by omega
  clear hX hbe hW hwe his hot hqf hqt hqfl hqtl
  go_upto_if 80 with (first | (go_at_call 21; refine (letterbaglaw33_awake.calls 10 true _ awake_f).mono ?_; rintro e w2 ⟨rfl, hb⟩; have N1 := Aside0.mk (N0.out.next hb); clear hb; obtain ⟨m0, m1, m2⟩ := N1.out.cells) | (go_at_call 22; refine (letterbaglaw33_fits.calls (10 + 0) A0_0 c0_0 l0_0 A0_1 c0_1 l0_1 a1 a2 a3 true _ (Kd.C_below HR0.out N1.out.below) hc0_0 (Kd.C_below HR1.out N1.out.below) hc0_1 HF.out).mono ?_; rintro e w3 ⟨rfl, hb⟩; have N2 := Aside0.mk (N1.out.next hb); clear hb; obtain ⟨o0, o1, o2⟩ := N2.out.cells) | (go_at_call 23; refine (route_Arrive.calls A0_0 c0_0 l0_0 A0_1 c0_1 l0_1 a1 a3 X 0 _ (Kd.C_below HR0.out N2.out.below) hc0_0 (Kd.C_below HR1.out N2.out.below) hc0_1 HX.out).mono ?_; rintro e wX ⟨vX, rfl, ho, hb⟩; obtain ⟨AX, cX, eX⟩ := Kd.R_slice ho; rw [LX.out] at eX; subst eX; have N5 := Aside0.mk (N2.out.next hb); have KX := Aside0.mk (Kd.R_reads' ho).2.2; clear ho hb; obtain ⟨x0, x1, x2⟩ := N5.out.cells) | (go_at_call 30; refine (route_Way.calls A0_0 c0_0 l0_0 A0_1 c0_1 l0_1 a1 a2 a3 W we _ (Kd.C_below HR0.out N5.out.below) hc0_0 (Kd.C_below HR1.out N5.out.below) hc0_1 HWY.out).mono ?_; rintro e wX ⟨vX, rfl, ho, hb⟩; obtain ⟨AW, cW, eW⟩ := Kd.R_slice ho; subst eW; have N6 := Aside0.mk (N5.out.next hb); have KW6 := Aside0.mk (Kd.R_reads' ho).2; have KX6 := Aside0.mk (Kd.C_below KX.out hb); clear ho hb; obtain ⟨z0, z1, z2⟩ := N6.out.cells) | (go_at_call_of 25 a1; refine (letterbaglaw33_place.calls 10 A0_0 c0_0 l0_0 A0_1 c0_1 l0_1 a1 (qf : Int) _ (Kd.C_below HR0.out N6.out.below) hc0_0 (Kd.C_below HR1.out N6.out.below) hc0_1 HPO.out).mono ?_; rintro e w5 ⟨rfl, hb⟩; have N7 := Aside0.mk (N6.out.next hb); have KX7 := Aside0.mk (Kd.C_below KX6.out hb); have KW7 := Aside0.mk (Kd.C_below KW6.out.2 hb); clear hb; obtain ⟨s0, s1, s2⟩ := N7.out.cells; obtain ⟨aX, eX1, gXf⟩ := Kd.at_int KX7.out (qf : Int) hqf0 hqfX; subst eX1; rw [HXF.out, hqft] at gXf) | (go_at_call_of 25 a2; refine (letterbaglaw33_place.calls 10 A0_0 c0_0 l0_0 A0_1 c0_1 l0_1 a2 (qt : Int) _ (Kd.C_below HR0.out N7.out.below) hc0_0 (Kd.C_below HR1.out N7.out.below) hc0_1 HPT.out).mono ?_; rintro e w5 ⟨rfl, hb⟩; have N8 := Aside0.mk (N7.out.next hb); have KX8 := Aside0.mk (Kd.C_below KX7.out hb); have KW8 := Aside0.mk (Kd.C_below KW7.out hb); clear hb; obtain ⟨t0, t1, t2⟩ := N8.out.cells; obtain ⟨aX', eX2, gXt⟩ := Kd.at_int KX8.out (qt : Int) hqt0 hqtX; cases eX2; rw [HXT.out, hqtt] at gXt))
  have HcW := Aside0.mk KW6.out.1
  clear N5 N6 N7 KX KX6 KX7 KX8 KW6 KW7 x0 x1 x2 z0 z1 z2 s0 s1 s2 gXf gXt m0 m1 m2 o0 o1 o2 N1 N2
  go_cut [16] (fun v16 wc => v16 = .int .i64 ot ∧ Aside0 (NetW A0_0 c0_0 l0_0 A0_1 c0_1 l0_1 w wc) ∧ Aside0 (Kd.C k45 wc AW W.length W))
  case first =>
    by_cases hl : 0 < l4.length
    · obtain ⟨a4, e4, g0, g1, g2⟩ := at_T45 (Kd.C_below HR4.out N8.out.below) ((l4.length : Int) - 1) (by omega) (by omega)
      subst e4
      rw [HOT.out.2 hl] at g2
      have g2' := g2
      rw [show ((l4.length : Int) - 1).toNat = l4.length - 1 by omega] at g2'
      have dl := decide_eq_true hl
      have hwl : IntKind.i64.wrap ((l4.length : Int) - 1) = (l4.length : Int) - 1 := by rw [IntKind.wrap_i64]; omega
      have i0 : 0 ≤ (l4.length : Int) - 1 := by omega
      have i1 : (l4.length : Int) - 1 < (l4.length : Int) := by omega
      clear g0 g1 hl
      go_wp2
      go_meet
      case rel => exact ⟨rfl, N8, KW8⟩
    · have H0 := HOT.out.1 (by omega)
      have HH0 := Aside0.mk H0
      clear H0
      obtain rfl : l4 = [] := List.eq_nil_of_length_eq_zero (by omega)
      clear hl
      go_wp2
      go_meet
      case rel => exact ⟨by rw [HH0.out], N8, KW8⟩
  case rest =>
  obtain ⟨rfl, NC, KC⟩ := hcut
  clear N8 KW8 t0 t1 t2
  obtain ⟨n0, n1, n2⟩ := NC.out.cells
  cases he : (netOf l0_0 l0_1).early a1 a3 a2 with
  | none =>
    obtain ⟨hW0, hw6, hb1, hfar⟩ := HNO.out he
    subst hw6 hb1
    have dW : ((W.length : Int) == 0) = true := by rw [hW0]; rfl
    have HT := HTOP.out
    clear he hW0
    cases is with
    | false =>
      clear hfar HT
      go_wp2_with (first | (go_at_call 33; (with_reducible refine (route_Right.calls A0_0 c0_0 l0_0 A0_1 c0_1 l0_1 a1 a2 a3 A4 c4 l4 false _ (Kd.C_below HR0.out NC.out.below) hc0_0 (Kd.C_below HR1.out NC.out.below) hc0_1 (Kd.C_below HR4.out NC.out.below) hc4 HIS.out).mono ?_); rintro e w6 ⟨rfl, hb⟩; have NL := Aside0.mk (NC.out.next hb); have KL := Aside0.mk (Kd.C_below KC.out hb); clear hb; obtain ⟨b0, b1, b2⟩ := NL.out.cells))
      go_ret
      exact ⟨rfl, NL.out.below⟩
    | true =>
      obtain ⟨ha, hb⟩ := HT rfl
      have hf := hfar rfl
      have hwr : IntKind.i64.wrap (ot - a3) = ot - a3 := by rw [IntKind.wrap_i64]; omega
      have df := decide_eq_true hf
      clear hfar HT hf
      go_wp2_with (first | (go_at_call 33; (with_reducible refine (route_Right.calls A0_0 c0_0 l0_0 A0_1 c0_1 l0_1 a1 a2 a3 A4 c4 l4 true _ (Kd.C_below HR0.out NC.out.below) hc0_0 (Kd.C_below HR1.out NC.out.below) hc0_1 (Kd.C_below HR4.out NC.out.below) hc4 HIS.out).mono ?_); rintro e w6 ⟨rfl, hb⟩; have NL := Aside0.mk (NC.out.next hb); have KL := Aside0.mk (Kd.C_below KC.out hb); clear hb; obtain ⟨b0, b1, b2⟩ := NL.out.cells))
      go_ret
      exact ⟨rfl, NL.out.below⟩
  | some e =>
  obtain ⟨hWe, hw0, hbe, hle⟩ := HYES.out e he
  obtain ⟨f1, f2, f3, f4, f5, f6⟩ := HP.out.valid.way_facts HP.out.inA he
  have HRW : Aside0 (route_Right.f l0_0 l0_1 a1 a2 a3 W = some true) := ⟨by rw [right_f HI.out HP.out.valid HP.out.inA HP.out.inB ht0 ht1, hWe, st3_way]; exact congrArg some f1⟩
  have HEND : Aside0 ((W.length = 0 → e = a3) ∧ (0 < W.length → (rd_T45 W ((W.length : Int) - 1)).f2 = e)) := ⟨by
    have hE : Net.endOf a3 (W.map st3) = e := by rw [hWe, st3_way]; exact f2
    exact ⟨fun h => by rw [← hE, List.eq_nil_of_length_eq_zero h]; rfl, fun h => by rw [endOf_at a3 W h]; exact hE⟩⟩
  obtain ⟨D, hD⟩ : ∃ D, D = ((netOf l0_0 l0_1).way a1 a2 a3 e).map (·.1.dst) := ⟨_, rfl⟩
  have hDl : D.length = W.length := by rw [hD, hWe, List.length_map, List.length_map]
  have FW : Aside0 (∀ x : Int, 0 ≤ x → x < W.length → ∃ (y : S23) (s : S45), rd_T45 W x = s ∧ network_Find.f (l0_1.length + 1) l0_0 l0_1 s.f0 = some (findV (some y)) ∧ I64 y.f2 ∧ met (a1 :: D.take x.toNat) y.f2 = 0 ∧ ∀ q, met (a1 :: D.take (x + 1).toNat) q = if q = y.f2 then 1 else met (a1 :: D.take x.toNat) q) := ⟨by
    intro x h0 h1
    obtain ⟨n, rfl⟩ : ∃ n : Nat, x = (n : Int) := ⟨x.toNat, by omega⟩
    have hn : n < D.length := by omega
    obtain ⟨y, s, g1, g2, g3, g4⟩ := least_at HP.out.valid (by have := HP.out.legs; omega) HP.out.inA he n (by rw [hD, List.length_map] at hn; exact hn)
    rw [← hD] at g4
    have hfr := fresh_at (p := a1) (D := D) (by rw [hD]; exact f4) hn
    rw [g4] at hfr
    refine ⟨y, s, by rw [hWe]; exact g1, g2, I64B_iff.1 (i64_plant HI.out g3), ?_, fun q => ?_⟩
    · rw [Int.toNat_natCast]; unfold met; rw [hfr]; rfl
    · rw [show ((n : Int) + 1).toNat = n + 1 by omega, Int.toNat_natCast, Net.take_succ_getD D 0 n hn, g4, ← List.cons_append, met_snoc]⟩
  have HLE := Aside0.mk hle
  have hwait : e ≤ a3 + 86400 := f3
  have hea : a3 ≤ e := (Net.Nw.early_good he ht1).1
  have hem : e ≤ 1051898399 := (Net.Nw.early_good he ht1).2.1
  subst hw0 hbe
  have HI1 : Aside0 (I64 a1) := ⟨I64B_iff.1 (i64_plant HI.out HP.out.inA)⟩
  clear he f1 f2 f3 f4 f5 f6 hle hWe hD
  go_upto_if 116 with (first | (go_at_call 33; (with_reducible refine (route_Right.calls A0_0 c0_0 l0_0 A0_1 c0_1 l0_1 a1 a2 a3 A4 c4 l4 is _ (Kd.C_below HR0.out NC.out.below) hc0_0 (Kd.C_below HR1.out NC.out.below) hc0_1 (Kd.C_below HR4.out NC.out.below) hc4 HIS.out).mono ?_); rintro e w6 ⟨rfl, hb⟩; have NL := Aside0.mk (NC.out.next hb); have KL := Aside0.mk (Kd.C_below KC.out hb); clear hb; obtain ⟨b0, b1, b2⟩ := NL.out.cells))
  go_cut [18] (fun v18 wc => v18 = .int .i64 be ∧ Aside0 (NetW A0_0 c0_0 l0_0 A0_1 c0_1 l0_1 w wc) ∧ Aside0 (Kd.C k45 wc AW W.length W))
  case first =>
    by_cases hl : 0 < W.length
    · obtain ⟨a4, e4, g0, g1, g2⟩ := at_T45 KL.out ((W.length : Int) - 1) (by omega) (by omega)
      subst e4
      rw [HEND.out.2 hl] at g2
      have g2' := g2
      rw [show ((W.length : Int) - 1).toNat = W.length - 1 by omega] at g2'
      have dl := decide_eq_true hl
      have hwl : IntKind.i64.wrap ((W.length : Int) - 1) = (W.length : Int) - 1 := by rw [IntKind.wrap_i64]; omega
      have i0 : 0 ≤ (W.length : Int) - 1 := by omega
      have i1 : (W.length : Int) - 1 < (W.length : Int) := by omega
      clear g0 g1 hl
      go_wp2
      go_meet
      case rel => exact ⟨rfl, NL, KL⟩
    · have H0 := HEND.out.1 (by omega)
      have HH0 := Aside0.mk H0
      clear H0
      obtain rfl : W = [] := List.eq_nil_of_length_eq_zero (by omega)
      clear hl
      go_wp2
      go_meet
      case rel => exact ⟨by rw [HH0.out], NL, KL⟩
  case rest =>
  obtain ⟨rfl, ND, KD⟩ := hcut
  clear NC KC NL KL n0 n1 n2 b0 b1 b2
  obtain ⟨n0, n1, n2⟩ := ND.out.cells
  have hwb : IntKind.i64.wrap (be - a3) = be - a3 := by rw [IntKind.wrap_i64]; omega
  have dwb : decide (86400 < be - a3) = false := decide_eq_false (by omega)
  go_upto_region 21 with (first | (go_at_call 33; (with_reducible refine (route_Right.calls A0_0 c0_0 l0_0 A0_1 c0_1 l0_1 a1 a2 a3 AW cW W true _ (Kd.C_below HR0.out ND.out.below) hc0_0 (Kd.C_below HR1.out ND.out.below) hc0_1 KD.out HcW.out HRW.out).mono ?_); rintro e w6 ⟨rfl, hb⟩; have NM := Aside0.mk (ND.out.next hb); have KM := Aside0.mk (Kd.C_below KD.out hb); clear hb; obtain ⟨b0, b1, b2⟩ := NM.out.cells))
  have hb0 : be ≤ ot ∨ is = false := by
    cases is with
    | false => exact .inr rfl
    | true => exact .inl (HLE.out rfl).1
  have HB0 := Aside0.mk hb0
  clear hb0
  obtain ⟨wM, hwM⟩ : ∃ wM : World, wM = w6 := ⟨_, rfl⟩
  subst hwM
  have HMM := Aside0.mk (MapIs.made wM)
  obtain ⟨gm, hgm⟩ : ∃ g, g = wM.heap.size := ⟨_, rfl⟩
  have hgl : w.heap.size < gm := by rw [hgm]; exact b2
  have hi1 : Aside0 (I64 1) := ⟨by unfold I64; omega⟩
  have hi0 : 0 < 4000000000 := by omega
  go_wp2_with (first | (refine map_insert rfl _ _ _ rfl wM.heap.size 0 _ rfl HMM.out hi0 a1 1 rfl HI1.out rfl hi1.out ?_; intro wS hmS hgS; have HMS := Aside0.mk hmS; have HGS := Aside0.mk hgS; clear hmS hgS))
  have HM1 : Aside0 (MapIs wS gm 1 (met (a1 :: D.take 0))) := ⟨by
    rw [hgm]
    refine HMS.out.congr (fun p => ?_)
    rw [List.take_zero, show [a1] = [] ++ [a1] from rfl, met_snoc]
    rfl⟩
  have HBM : Aside0 (Below gm wM wS) := ⟨by rw [hgm]; exact ((Below.refl wM.heap.size wM).alloc (Nat.le_refl _) _).grown HGS.out (by simp) (fun k e => by cases e; exact Nat.le_refl _)⟩
  rw [← hgm]
  have HGM := Aside0.mk hgm
  clear hgm HMM HMS HGS n0 n1 n2 ND KD
  go_loopw [20] (fun i wr => ∃ x : Int, i = .int .i64 x ∧ Aside0 (0 ≤ x ∧ x ≤ W.length) ∧ Aside0 (Below gm wM wr) ∧ Aside0 (MapIs wr gm (x.toNat + 1) (met (a1 :: D.take x.toNat)))) (fun i _ => W.length - (intOf i).toNat)
  case atStart => exact ⟨0, rfl, ⟨by omega⟩, HBM, HM1⟩
  case round =>
    obtain ⟨x, rfl, HXX, HBR, HMR⟩ := hrel
    clear HM1 HBM
    have hbw : Aside0 (Below wM.heap.size wM wr) := ⟨by rw [← HGM.out]; exact HBR.out⟩
    have NR := Aside0.mk (NM.out.next hbw.out)
    have KR := Aside0.mk (Kd.C_below KM.out hbw.out)
    obtain ⟨r0, r1, r2⟩ := NR.out.cells
    have hx0 : 0 ≤ x := HXX.out.1
    have hgr : gm < wr.heap.size := HMR.out.lt
    by_cases hx : x < (W.length : Int)
    · obtain ⟨y, s, e1, e2, e3, e4, e5⟩ := FW.out x hx0 hx
      obtain ⟨ad, eAW, g0, g1, g2⟩ := at_T45 KR.out x hx0 hx
      have hA := Aside0.mk eAW
      rw [e1] at g0 g1 g2
      clear e1 eAW g1 g2
      obtain ⟨y0, y1, y2, y3, y4, y5, y6, y7⟩ := y
      obtain ⟨s0, s1, s2⟩ := s
      dsimp only at e2 e3 e4 e5 g0
      simp only [findV] at e2
      have HFX := Aside0.mk e2
      have HI2 := Aside0.mk e3
      have HM0 := Aside0.mk e4
      have HM5 := Aside0.mk e5
      clear e2 e3 e4 e5
      have HW : Aside0 (0 ≤ x + 1 ∧ x + 1 ≤ (W.length : Int)) := ⟨by omega⟩
      have HWW : Aside0 (wrap64 (x + 1) = x + 1) := ⟨by unfold wrap64; omega⟩
      have gl := World.block_lt_of_cell? wr _ g0
      obtain rfl := hA.out
      go_upto_region 25 with fail
      go_cut [21, 22] (fun v21 v22 wc => v22 = .bool true ∧ ∃ b : Nat, v21 = .pointer (some ⟨b, 0, none⟩) ∧ Aside0 (wr.heap.size ≤ b) ∧ Aside0 (wc.heap[b]? = some (.cells #[.int .i64 y0, .int .i64 y1, .int .i64 y2, .int .i64 y3, .int .i64 y4, .int .i64 y5, .int .i64 y6, .int .u8 y7] 23 (0, 0))) ∧ Aside0 (Below wr.heap.size wr wc))
      case first =>
        go_region_held3 (fun W' => W'.cell? ⟨w.heap.size, 0, none⟩ = some (.slice A0_0 l0_0.length c0_0) ∧ W'.cell? ⟨w.heap.size, 1, none⟩ = some (.slice A0_1 l0_1.length c0_1) ∧ W'.cell? (ad.add (x.toNat * 3)) = some (.int .i64 s0)) (first | (with_reducible exact ⟨f0, f1, f3⟩) | (with_reducible exact ⟨r0, r1, g0⟩) | (with_reducible exact ⟨cell_alloc_at f0 _, cell_alloc_at f1 _, cell_alloc_at f3 _⟩) | (with_reducible exact ⟨cell_put8 f0 (Nat.ne_of_gt r2), cell_put8 f1 (Nat.ne_of_gt r2), cell_put8 f3 (Nat.ne_of_gt gl)⟩) | (with_reducible exact ⟨cell_drew_at r0, cell_drew_at r1, cell_drew_at g0⟩) | (with_reducible exact ⟨cell_alloc_at r0 _, cell_alloc_at r1 _, cell_alloc_at g0 _⟩) | (with_reducible exact ⟨cell_drew_at (cell_alloc_at r0 _), cell_drew_at (cell_alloc_at r1 _), cell_drew_at (cell_alloc_at g0 _)⟩) | (with_reducible exact ⟨cell_alloc_at (cell_drew_at r0) _, cell_alloc_at (cell_drew_at r1) _, cell_alloc_at (cell_drew_at g0) _⟩)) (first | (go_at_call 35; first | (refine (network_Find.calls (l0_1.length + 1) A0_0 c0_0 l0_0 A0_1 c0_1 l0_1 s0 y0 y1 y2 y3 y4 y5 y6 y7 true (wr.drew) (Kd.C_below HR0.out (below_then NR.out.below NR.out.below.size (pw_below_drewN (Below.refl wr.heap.size wr) 1))) hc0_0 (Kd.C_below HR1.out (below_then NR.out.below NR.out.below.size (pw_below_drewN (Below.refl wr.heap.size wr) 1))) hc0_1 HFX.out).mono ?_; rintro en w3 ⟨rfl, hb⟩; have B9 := Aside0.mk (below_then (pw_below_drewN (Below.refl wr.heap.size wr) 1) (by first | exact Nat.le_refl _ | (simp; done)) hb); have N9 := Aside0.mk (NR.out.next B9.out); have f3 : w3.cell? (ad.add (x.toNat * 3)) = some (.int .i64 s0) := (B9.out.cell gl).trans g0; have f4 := Nat.lt_of_lt_of_le gl B9.out.size; clear hb; obtain ⟨f0, f1, f2⟩ := N9.out.cells) | (refine (network_Find.calls (l0_1.length + 1) A0_0 c0_0 l0_0 A0_1 c0_1 l0_1 s0 y0 y1 y2 y3 y4 y5 y6 y7 true ((wr.alloc (.cells #[.int .i64 0, .int .i64 0, .int .i64 0, .int .i64 0, .int .i64 0, .int .i64 0, .int .i64 0, .int .u8 0] 23)).drew) (Kd.C_below HR0.out (below_then NR.out.below NR.out.below.size (pw_below_drewN ((Below.refl wr.heap.size wr).alloc (Nat.le_refl _) (.cells #[.int .i64 0, .int .i64 0, .int .i64 0, .int .i64 0, .int .i64 0, .int .i64 0, .int .i64 0, .int .u8 0] 23)) 1))) hc0_0 (Kd.C_below HR1.out (below_then NR.out.below NR.out.below.size (pw_below_drewN ((Below.refl wr.heap.size wr).alloc (Nat.le_refl _) (.cells #[.int .i64 0, .int .i64 0, .int .i64 0, .int .i64 0, .int .i64 0, .int .i64 0, .int .i64 0, .int .u8 0] 23)) 1))) hc0_1 HFX.out).mono ?_; rintro en w3 ⟨rfl, hb⟩; have B9 := Aside0.mk (below_then (pw_below_drewN ((Below.refl wr.heap.size wr).alloc (Nat.le_refl _) (.cells #[.int .i64 0, .int .i64 0, .int .i64 0, .int .i64 0, .int .i64 0, .int .i64 0, .int .i64 0, .int .u8 0] 23)) 1) (by first | exact Nat.le_refl _ | (simp; done)) hb); have hz := blk_below (blk_drew (blk_new wr (.cells #[.int .i64 0, .int .i64 0, .int .i64 0, .int .i64 0, .int .i64 0, .int .i64 0, .int .i64 0, .int .u8 0] 23))) hb; have HZ := Aside0.mk hz; obtain ⟨q0, q1, q2, q3, q4, q5, q6, q7⟩ := cells23' hz; have p0 := blk_frozen hz 0; have p1 := blk_frozen hz 1; have p2 := blk_frozen hz 2; have p3 := blk_frozen hz 3; have p4 := blk_frozen hz 4; have p5 := blk_frozen hz 5; have p6 := blk_frozen hz 6; have p7 := blk_frozen hz 7; clear hz; have N9 := Aside0.mk (NR.out.next B9.out); have f3 : w3.cell? (ad.add (x.toNat * 3)) = some (.int .i64 s0) := (B9.out.cell gl).trans g0; have f4 := Nat.lt_of_lt_of_le gl B9.out.size; clear hb; obtain ⟨f0, f1, f2⟩ := N9.out.cells)))
        all_goals (go_wp2; go_meet)
        case rel => exact ⟨rfl, w3.heap.size, rfl, ⟨B9.out.size⟩, ⟨blk_new w3 _⟩, ⟨B9.out.alloc B9.out.size _⟩⟩
        case rel =>
          have hp := put8 HZ.out y0 y1 y2 y3 y4 y5 y6 y7 rfl
          exact ⟨rfl, wr.heap.size, rfl, ⟨Nat.le_refl _⟩, ⟨hp.1⟩, ⟨hp.2.2 _ _ B9.out (Nat.le_refl _)⟩⟩
      case rest =>
      obtain ⟨rfl, b, rfl, Hb, HB, BW⟩ := hcut
      have hl2 := (cells23' HB.out).2.2.1
      have hbg : b ≠ gm := by have := Hb.out; omega
      have hbn : Aside0 (some b ≠ some gm) := ⟨fun e => hbg (Option.some.inj e)⟩
      have hi1 : Aside0 (I64 1) := ⟨by unfold I64; omega⟩
      have HMC : Aside0 (MapIs wc gm (x.toNat + 1) (met (a1 :: D.take x.toNat))) := ⟨HMR.out.kept (grown_of_below BW.out none) (by simp)⟩
      have hx9 : x.toNat + 1 < 4000000000 := by omega
      clear r0 r1 r2 g0 gl
      go_wp2_with (first
        | ((with_reducible refine gate_dst (N := 168) rfl ?_); refine map_lookup rfl _ _ rfl gm _ _ rfl HMC.out y2 0 rfl HI2.out HM0.out ?_)
        | (at_mapUpdate; refine map_store rfl _ _ _ rfl gm _ _ rfl HMC.out hx9 y2 1 rfl HI2.out rfl hi1.out ?_; intro w8 hm8 hg8; have HM8 := Aside0.mk hm8; have HG8 := Aside0.mk hg8; clear hm8 hg8; have HB8 := Aside0.mk (blk_grown HB.out HG8.out hbn.out); have hl8 := (cells23' HB8.out).2.2.1)
        | ((with_reducible refine gate_dst (N := 176) rfl ?_); (try (refine gate_guard (by rfl) ?_; dsimp only)); refine map_lookup rfl _ _ rfl gm _ _ rfl HM8.out y2 1 rfl HI2.out (if_pos rfl) ?_))
      go_roundw
      case rel => exact ⟨x + 1, by first | rfl | go_num | (rw [HWW.out]) | (simp only [HWW.out]), HW, ⟨(below_then HBR.out (Nat.le_of_lt hgr) BW.out).grown HG8.out (Nat.le_trans (Nat.le_of_lt hgr) BW.out.size) (fun k e => by cases e; exact Nat.le_refl _)⟩, ⟨by
        have e1 : (x + 1).toNat = x.toNat + 1 := by omega
        rw [e1]
        refine (HM8.out.congr (fun q => ?_)).more (by omega)
        rw [← e1]
        exact (HM5.out q).symm⟩⟩
      case measure =>
        have := HW.out
        simp [intOf, HWW.out]
        try omega
    · obtain rfl : x = (W.length : Int) := by have := HXX.out; omega
      cases is with
      | false =>
        go_wp2
        go_ret
        exact ⟨rfl, NR.out.below⟩
      | true =>
        obtain ⟨k1, k2⟩ := HLE.out rfl
        have d1 : decide (be ≤ ot) = true := decide_eq_true k1
        by_cases k3 : be < ot
        · have d3 := decide_eq_true k3
          clear k2
          go_wp2
          go_ret
          exact ⟨rfl, NR.out.below⟩
        · have d3 := decide_eq_false k3
          obtain ⟨k4, k5⟩ := k2 (by omega)
          by_cases k6 : W.length < l4.length
          · have d6 := decide_eq_true k6
            clear k5
            go_wp2
            go_ret
            exact ⟨rfl, NR.out.below⟩
          · have d6 := decide_eq_false k6
            have k7 : l4.length = W.length := by omega
            have HLS := Aside0.mk (k5 k7)
            have d7 : ((l4.length : Int) == (W.length : Int)) = true := by rw [k7]; simp
            clear k5
            have HK7 := Aside0.mk k7
            clear k7
            go_wp2_with (first | (go_at_call 36; refine (letterbaglaw33_less.calls 300 A4 c4 l4 AW cW W false _ (Kd.C_below HR4.out NR.out.below) hc4 KR.out HcW.out HLS.out).mono ?_; rintro e w9 ⟨rfl, ⟨md, rfl⟩⟩))
            go_ret
            exact ⟨rfl, pw_below_drewN NR.out.below md⟩
end Go.Proofs.Ytdpadeklociinaa.PA
