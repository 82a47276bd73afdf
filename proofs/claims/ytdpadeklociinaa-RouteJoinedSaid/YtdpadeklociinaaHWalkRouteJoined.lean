import Derived.Test.YtdpadeklociinaaHNetW
import Derived.Test.YtdpadeklociinaaHFacts
import Derived.Test.YtdpadeklociinaaHCut
import Derived.Deep.RegionHeld3
set_option linter.unusedVariables false
set_option linter.unusedSimpArgs false
namespace Go.Proofs.Ytdpadeklociinaa.PA
open Go.RowKit Go.Maps Go.Proofs.YtdpadeklociinaaW.PrintWords Go.Proofs.YtdpadeklociinaaW.PrintLast Go.Proofs.YtdpadeklociinaaW.PrintMore Go.Proofs.Ytdpadeklociinaa
theorem rd_arrive {l0 : List Int} {l1 : List S23} (a t p : Int) (hp : p ∈ l0) : rd ((netOf l0 l1).arriveL a t) ((l0.idxOf p : Nat) : Int) = Net.enc ((netOf l0 l1).early a t p) := by
  unfold Net.Nw.arriveL
  rw [show (netOf l0 l1).plants = l0 from rfl]
  have h := List.idxOf_lt_length_of_mem hp
  rw [rd_get (by rw [List.length_map]; exact h), List.getElem_map, List.getElem_idxOf]
theorem enc_low {N : Net.Nw} {a t p : Int} (h0 : 0 ≤ t) (h1 : t ≤ 1051898399) : -1 ≤ Net.enc (N.early a t p) ∧ Net.enc (N.early a t p) ≤ 1051898399 := by
  cases he : N.early a t p with
  | none => simp [Net.enc]
  | some v => have := Net.Nw.early_good he h1; simp [Net.enc]; omega
set_option maxRecDepth 100000 in
set_option maxHeartbeats 16000000 in
theorem RouteJoined.calls (k : Nat) (A0_0 : Option Addr) (c0_0 : Nat) (l0_0 : List Int) (A0_1 : Option Addr) (c0_1 : Nat) (l0_1 : List S23) (a1 : Int) (a2 : Int) (a3 : Int) (a4 : Int) (r : Bool) (w : World) (hr0_0 : Kd.C (Kd.int .i64) w A0_0 l0_0.length l0_0) (hc0_0 : l0_0.length ≤ c0_0) (hr0_1 : Kd.C k23 w A0_1 l0_1.length l0_1) (hc0_1 : l0_1.length ≤ c0_1) (h : netI l0_0 l0_1 = true ∧ r = true) :
    Calls Try.prog 10 #[.agg #[.slice A0_0 l0_0.length c0_0, .slice A0_1 l0_1.length c0_1], .int .i64 a1, .int .i64 a2, .int .i64 a3, .int .i64 a4] w fun e w' => e = .returned (.bool r) ∧ Below w.heap.size w w' := by
  obtain ⟨hI, rfl⟩ := h
  have HI := Aside0.mk hI
  have HR0 := Aside0.mk hr0_0
  have HR1 := Aside0.mk hr0_1
  clear hr0_0 hr0_1 hI
  have N0 := Aside0.mk (NetW.new A0_0 c0_0 l0_0 A0_1 c0_1 l0_1 w)
  go_enter Try.func10, Try.ntmps10
  rcases fits_f HI.out a1 a3 a4 0 with hf | ⟨hf, F⟩
  · have HF := Aside0.mk hf
    clear hf
    go_wp2_with (first | (go_at_call 21; refine (letterbaglaw33_awake.calls 10 true _ awake_f).mono ?_; rintro e w2 ⟨rfl, hb⟩; have N1 := Aside0.mk (N0.out.next hb); clear hb; obtain ⟨m0, m1, m2⟩ := N1.out.cells) | (go_at_call 22; refine (letterbaglaw33_fits.calls (10 + 0) A0_0 c0_0 l0_0 A0_1 c0_1 l0_1 a1 a3 a4 false _ (Kd.C_below HR0.out N1.out.below) hc0_0 (Kd.C_below HR1.out N1.out.below) hc0_1 HF.out).mono ?_; rintro e w3 ⟨rfl, hb⟩; have N2 := Aside0.mk (N1.out.next hb); clear hb; obtain ⟨o0, o1, o2⟩ := N2.out.cells))
    go_ret
    exact ⟨rfl, N2.out.below⟩
  have HF := Aside0.mk hf
  have HP := Aside0.mk F
  clear hf F
  have h9 := HP.out.nine
  by_cases hov : a2 ∈ l0_0
  case neg =>
    have HPL : Aside0 (letterbaglaw33_place.f 10 l0_0 l0_1 a2 = some (-1)) := ⟨by rw [place_f a2 l0_0 l0_1 (by omega) 10 (by omega), placeV_neg hov]⟩
    clear hov
    go_wp2_with (first | (go_at_call 21; refine (letterbaglaw33_awake.calls 10 true _ awake_f).mono ?_; rintro e w2 ⟨rfl, hb⟩; have N1 := Aside0.mk (N0.out.next hb); clear hb; obtain ⟨m0, m1, m2⟩ := N1.out.cells) | (go_at_call 22; refine (letterbaglaw33_fits.calls (10 + 0) A0_0 c0_0 l0_0 A0_1 c0_1 l0_1 a1 a3 a4 true _ (Kd.C_below HR0.out N1.out.below) hc0_0 (Kd.C_below HR1.out N1.out.below) hc0_1 HF.out).mono ?_; rintro e w3 ⟨rfl, hb⟩; have N2 := Aside0.mk (N1.out.next hb); clear hb; obtain ⟨o0, o1, o2⟩ := N2.out.cells) | (go_at_call 25; refine (letterbaglaw33_place.calls 10 A0_0 c0_0 l0_0 A0_1 c0_1 l0_1 a2 (-1) _ (Kd.C_below HR0.out N2.out.below) hc0_0 (Kd.C_below HR1.out N2.out.below) hc0_1 HPL.out).mono ?_; rintro e w5 ⟨rfl, hb⟩; have N4 := Aside0.mk (N2.out.next hb); clear hb; obtain ⟨s0, s1, s2⟩ := N4.out.cells))
    go_ret
    exact ⟨rfl, N4.out.below⟩
  have ht0 := HP.out.t0
  have ht1 := HP.out.t1
  -- the places
  obtain ⟨qo, hqo⟩ : ∃ q, q = l0_0.idxOf a2 := ⟨_, rfl⟩
  obtain ⟨qt, hqt⟩ : ∃ q, q = l0_0.idxOf a3 := ⟨_, rfl⟩
  have hqol : qo < l0_0.length := by rw [hqo]; exact List.idxOf_lt_length_of_mem hov
  have hqtl : qt < l0_0.length := by rw [hqt]; exact List.idxOf_lt_length_of_mem HP.out.inB
  have HPO : Aside0 (letterbaglaw33_place.f 10 l0_0 l0_1 a2 = some (qo : Int)) := ⟨by rw [place_f a2 l0_0 l0_1 (by omega) 10 (by omega), placeV_pos hov, hqo]⟩
  have HPT : Aside0 (letterbaglaw33_place.f 10 l0_0 l0_1 a3 = some (qt : Int)) := ⟨by rw [place_f a3 l0_0 l0_1 (by omega) 10 (by omega), placeV_pos HP.out.inB, hqt]⟩
  obtain ⟨X, hX⟩ : ∃ X, X = (netOf l0_0 l0_1).arriveL a1 a4 := ⟨_, rfl⟩
  have HX : Aside0 (route_Arrive.f l0_0 l0_1 a1 a4 = some (X, 0)) := ⟨by rw [hX]; exact arrive_f HI.out HP.out.valid HP.out.inA ht0 ht1⟩
  have LX : Aside0 (X.length = l0_0.length) := ⟨by rw [hX]; unfold Net.Nw.arriveL; simp [netOf]⟩
  obtain ⟨mid, hmid⟩ : ∃ m, m = Net.enc ((netOf l0_0 l0_1).early a1 a4 a2) := ⟨_, rfl⟩
  obtain ⟨en, hen⟩ : ∃ m, m = Net.enc ((netOf l0_0 l0_1).early a1 a4 a3) := ⟨_, rfl⟩
  have HMID : Aside0 (rd X (qo : Int) = mid) := ⟨by rw [hX, hqo, hmid]; exact rd_arrive a1 a4 a2 hov⟩
  have HEN : Aside0 (rd X (qt : Int) = en) := ⟨by rw [hX, hqt, hen]; exact rd_arrive a1 a4 a3 HP.out.inB⟩
  have HRA : Aside0 (∀ a t, rd ((netOf l0_0 l0_1).arriveL a t) (qt : Int) = Net.enc ((netOf l0_0 l0_1).early a t a3)) := ⟨fun a t => by rw [hqt]; exact rd_arrive a t a3 HP.out.inB⟩
  have HOVER : Aside0 (0 ≤ mid → mid ≤ 1051898399 ∧ (0 ≤ Net.enc ((netOf l0_0 l0_1).early a2 mid a3) → Net.enc ((netOf l0_0 l0_1).early a2 mid a3) - a4 ≤ 86400 → 0 ≤ en ∧ en ≤ Net.enc ((netOf l0_0 l0_1).early a2 mid a3))) := ⟨fun hm => by
    rw [hmid] at hm ⊢
    rw [hen]
    exact HP.out.valid.over_facts HP.out.inA ht0 ht1 hm⟩
  -- the best way
  obtain ⟨W, hW⟩ : ∃ W, W = (wayV (netOf l0_0 l0_1) a1 a3 a4).1 := ⟨_, rfl⟩
  obtain ⟨we, hwe⟩ : ∃ e, e = (wayV (netOf l0_0 l0_1) a1 a3 a4).2 := ⟨_, rfl⟩
  have HWY : Aside0 (route_Way.f l0_0 l0_1 a1 a3 a4 = some (W, we)) := ⟨by rw [way_f HI.out HP.out.valid HP.out.inA HP.out.inB ht0 ht1, hW, hwe]⟩
  have hW9 : W.length ≤ 9 := by
    rw [hW]
    have h1 := wayV_len (p := a1) (q := a3) (t := a4) HP.out.valid HP.out.inA
    have h2 : (netOf l0_0 l0_1).plants.length = l0_0.length := rfl
    omega
  have FW : Aside0 (∀ x : Int, 0 ≤ x → x < W.length → ∃ (y : S23) (s : S45), rd_T45 W x = s ∧ network_Find.f (l0_1.length + 1) l0_0 l0_1 s.f0 = some (findV (some y)) ∧ y.f2 ∈ l0_0 ∧ 0 ≤ s.f2 ∧ s.f2 ≤ 1051898399 ∧
      Net.enc ((netOf l0_0 l0_1).early y.f2 s.f2 a3) = en ∧ route_Right.f l0_0 l0_1 y.f2 a3 s.f2 (W.drop (x.toNat + 1)) = some true) := ⟨by
    intro x h0 h1
    obtain ⟨n, rfl⟩ : ∃ n : Nat, x = (n : Int) := ⟨x.toNat, by omega⟩
    have hn : n < W.length := by omega
    rw [hW] at hn ⊢
    unfold wayV at hn ⊢
    rw [hen]
    cases he : (netOf l0_0 l0_1).early a1 a4 a3 with
    | none => rw [he] at hn; simp at hn
    | some e =>
      rw [he] at hn
      dsimp only at hn ⊢
      rw [List.length_map] at hn
      obtain ⟨y, s, g1, g2, g3, g4, g5, g6, g7⟩ := joined_at HI.out HP.out.valid (by have := HP.out.legs; omega) HP.out.inA HP.out.inB he n hn
      refine ⟨y, s, g1, g2, g3, g4, g5, by rw [g6], ?_⟩
      rw [Int.toNat_natCast]
      exact g7⟩
  have HOV := Aside0.mk hov
  have hqo0 : (0 : Int) ≤ qo := by omega
  have hqt0 : (0 : Int) ≤ qt := by omega
  have hqoX : (qo : Int) < (X.length : Int) := by rw [LX.out]; omega
  have hqtX : (qt : Int) < (X.length : Int) := by rw [LX.out]; omega
  have hqoL : (qo : Int) < (l0_0.length : Int) := by omega
  have hqtL : (qt : Int) < (l0_0.length : Int) := by omega
  have hqo' : decide ((qo : Int) < 0) = false := decide_eq_false (by omega)
  have hqot : ((qo : Int)).toNat = qo := by omega
  have hqtt : ((qt : Int)).toNat = qt := by omega
  have HEL : Aside0 (-1 ≤ en ∧ en ≤ 1051898399) := ⟨by rw [hen]; exact enc_low ht0 ht1⟩
  have HQL := Aside0.mk hqtl
  clear hX hmid hen hW hwe hqo hqt hov hqol
  go_upto_region 6 with (first | (go_at_call 21; refine (letterbaglaw33_awake.calls 10 true _ awake_f).mono ?_; rintro e w2 ⟨rfl, hb⟩; have N1 := Aside0.mk (N0.out.next hb); clear hb; obtain ⟨m0, m1, m2⟩ := N1.out.cells) | (go_at_call 22; refine (letterbaglaw33_fits.calls (10 + 0) A0_0 c0_0 l0_0 A0_1 c0_1 l0_1 a1 a3 a4 true _ (Kd.C_below HR0.out N1.out.below) hc0_0 (Kd.C_below HR1.out N1.out.below) hc0_1 HF.out).mono ?_; rintro e w3 ⟨rfl, hb⟩; have N2 := Aside0.mk (N1.out.next hb); clear hb; obtain ⟨o0, o1, o2⟩ := N2.out.cells) | (go_at_call 25; refine (letterbaglaw33_place.calls 10 A0_0 c0_0 l0_0 A0_1 c0_1 l0_1 a2 (qo : Int) _ (Kd.C_below HR0.out N2.out.below) hc0_0 (Kd.C_below HR1.out N2.out.below) hc0_1 HPO.out).mono ?_; rintro e w5 ⟨rfl, hb⟩; have N4 := Aside0.mk (N2.out.next hb); clear hb; obtain ⟨s0, s1, s2⟩ := N4.out.cells) | (go_at_call 23; refine (route_Arrive.calls A0_0 c0_0 l0_0 A0_1 c0_1 l0_1 a1 a4 X 0 _ (Kd.C_below HR0.out N4.out.below) hc0_0 (Kd.C_below HR1.out N4.out.below) hc0_1 HX.out).mono ?_; rintro e wX ⟨vX, rfl, ho, hb⟩; obtain ⟨AX, cX, eX⟩ := Kd.R_slice ho; rw [LX.out] at eX; subst eX; have N5 := Aside0.mk (N4.out.next hb); have KX := Aside0.mk (Kd.R_reads' ho).2.2; clear ho hb; obtain ⟨x0, x1, x2⟩ := N5.out.cells; obtain ⟨aX, eX1, gXo⟩ := Kd.at_int KX.out (qo : Int) hqo0 hqoX; obtain ⟨aX', eX2, gXt⟩ := Kd.at_int KX.out (qt : Int) hqt0 hqtX; subst eX1; cases eX2; rw [HMID.out, hqot] at gXo; rw [HEN.out, hqtt] at gXt))
  go_region_held3 (fun W' => W'.cell? ⟨w.heap.size, 0, none⟩ = some (.slice A0_0 l0_0.length c0_0) ∧ W'.cell? ⟨w.heap.size, 1, none⟩ = some (.slice A0_1 l0_1.length c0_1) ∧ W'.cell? (aX.add qo) = some (.int .i64 mid) ∧ W'.cell? (aX.add qt) = some (.int .i64 en)) (first | exact ⟨z0, z1, gXo3, gXt3⟩ | exact ⟨y0, y1, gXo2, gXt2⟩ | exact ⟨x0, x1, gXo, gXt⟩) (first | (go_at_call_of 25 a2; refine (letterbaglaw33_place.calls 10 A0_0 c0_0 l0_0 A0_1 c0_1 l0_1 a2 (qo : Int) _ (Kd.C_drew (Kd.C_below HR0.out N5.out.below)) hc0_0 (Kd.C_drew (Kd.C_below HR1.out N5.out.below)) hc0_1 HPO.out).mono ?_; rintro e wP ⟨rfl, hb⟩; have N6 := Aside0.mk ((N5.out.next (pw_below_drewN (Below.refl _ _) 1)).next hb); have K6 := Aside0.mk (Kd.C_below (Kd.C_drew KX.out) hb); clear hb; obtain ⟨y0, y1, y2⟩ := N6.out.cells; obtain ⟨bX, fX1, gXo2⟩ := Kd.at_int K6.out (qo : Int) hqo0 hqoX; obtain ⟨bX', fX2, gXt2⟩ := Kd.at_int K6.out (qt : Int) hqt0 hqtX; cases fX1; cases fX2; rw [HMID.out, hqot] at gXo2; rw [HEN.out, hqtt] at gXt2) | (go_at_call_of 25 a3; refine (letterbaglaw33_place.calls 10 A0_0 c0_0 l0_0 A0_1 c0_1 l0_1 a3 (qt : Int) _ (Kd.C_below HR0.out N6.out.below) hc0_0 (Kd.C_below HR1.out N6.out.below) hc0_1 HPT.out).mono ?_; rintro e wQ ⟨rfl, hb⟩; have N7 := Aside0.mk (N6.out.next hb); have K7 := Aside0.mk (Kd.C_below K6.out hb); clear hb; obtain ⟨z0, z1, z2⟩ := N7.out.cells; obtain ⟨cX', fY1, gXo3⟩ := Kd.at_int K7.out (qo : Int) hqo0 hqoX; obtain ⟨cX'', fY2, gXt3⟩ := Kd.at_int K7.out (qt : Int) hqt0 hqtX; cases fY1; cases fY2; rw [HMID.out, hqot] at gXo3; rw [HEN.out, hqtt] at gXt3))
  clear N4 N5 KX x0 x1 x2 gXo gXt s0 s1 s2 y0 y1 y2 gXo2 gXt2 gXo3 gXt3 K6 N6 K7
  go_upto_if 59 with fail
  go_cut [] (fun wc => Aside0 (NetW A0_0 c0_0 l0_0 A0_1 c0_1 l0_1 w wc))
  case first =>
    by_cases cm : 0 ≤ mid
    · have dm := decide_eq_true cm
      have HO := HOVER.out cm
      obtain ⟨hm1, hm2⟩ := HO
      obtain ⟨Y, eY⟩ : ∃ Y, Y = (netOf l0_0 l0_1).arriveL a2 mid := ⟨_, rfl⟩
      have HY : Aside0 (route_Arrive.f l0_0 l0_1 a2 mid = some (Y, 0)) := ⟨by rw [eY]; exact arrive_f HI.out HP.out.valid HOV.out cm hm1⟩
      have LY : Aside0 (Y.length = l0_0.length) := ⟨by rw [eY]; unfold Net.Nw.arriveL; simp [netOf]⟩
      obtain ⟨la, hla⟩ : ∃ m, m = Net.enc ((netOf l0_0 l0_1).early a2 mid a3) := ⟨_, rfl⟩
      have HLA : Aside0 (rd Y (qt : Int) = la) := ⟨by rw [eY, HRA.out, hla]⟩
      have hlb : -1 ≤ la ∧ la ≤ 1051898399 := by rw [hla]; exact enc_low cm hm1
      rw [← hla] at hm2
      have HM2 := Aside0.mk hm2
      clear hla eY hm2
      obtain ⟨hlb1, hlb2⟩ := hlb
      have hqtY : (qt : Int) < (Y.length : Int) := by rw [LY.out]; exact hqtL
      go_upto_region 12 with (first | (go_at_call 23; refine (route_Arrive.calls A0_0 c0_0 l0_0 A0_1 c0_1 l0_1 a2 mid Y 0 _ (Kd.C_below HR0.out N7.out.below) hc0_0 (Kd.C_below HR1.out N7.out.below) hc0_1 HY.out).mono ?_; rintro e wX ⟨vX, rfl, ho, hb⟩; obtain ⟨AY, cY, eY⟩ := Kd.R_slice ho; rw [LY.out] at eY; subst eY; have N8 := Aside0.mk (N7.out.next hb); have KY := Aside0.mk (Kd.R_reads' ho).2.2; clear ho hb; obtain ⟨u0, u1, u2⟩ := N8.out.cells) | (go_at_call 25; refine (letterbaglaw33_place.calls 10 A0_0 c0_0 l0_0 A0_1 c0_1 l0_1 a3 (qt : Int) _ (Kd.C_below HR0.out N8.out.below) hc0_0 (Kd.C_below HR1.out N8.out.below) hc0_1 HPT.out).mono ?_; rintro e w5 ⟨rfl, hb⟩; have N9 := Aside0.mk (N8.out.next hb); have KY2 := Aside0.mk (Kd.C_below KY.out hb); clear hb; obtain ⟨v0, v1, v2⟩ := N9.out.cells; obtain ⟨aY, eY1, gY⟩ := Kd.at_int KY2.out (qt : Int) hqt0 hqtY; subst eY1; rw [HLA.out, hqtt] at gY))
      by_cases c1 : 0 ≤ la
      · have d1 := decide_eq_true c1
        have hwr : IntKind.i64.wrap (la - a4) = la - a4 := by rw [IntKind.wrap_i64]; omega
        by_cases c2 : la - a4 ≤ 86400
        · have d2 := decide_eq_true c2
          obtain ⟨c3, c4⟩ := HM2.out c1 c2
          have d3 : decide (en < 0) = false := decide_eq_false (by omega)
          have d4 : decide (la < en) = false := decide_eq_false (by omega)
          go_wp2
          go_meet
          case rel => exact N9
        · have d2 := decide_eq_false c2
          go_wp2
          go_meet
          case rel => exact N9
      · have d1 := decide_eq_false c1
        go_wp2
        go_meet
        case rel => exact N9
    · have dm := decide_eq_false cm
      go_wp2
      go_meet
      case rel => exact N7
  case rest =>
  have NC := hcut
  clear N7 hcut
  obtain ⟨m0, m1, m2⟩ := NC.out.cells
  go_wp2_with (first | (go_at_call 30; refine (route_Way.calls A0_0 c0_0 l0_0 A0_1 c0_1 l0_1 a1 a3 a4 W we _ (Kd.C_below HR0.out NC.out.below) hc0_0 (Kd.C_below HR1.out NC.out.below) hc0_1 HWY.out).mono ?_; rintro e wX ⟨vX, rfl, ho, hb⟩; obtain ⟨AW, cW, eW⟩ := Kd.R_slice ho; subst eW; have N8 := Aside0.mk (NC.out.next hb); have KW := Aside0.mk (Kd.R_reads' ho).2; clear ho hb))
  go_loopw [20] (fun i wr => ∃ x : Int, i = .int .i64 x ∧ Aside0 (0 ≤ x ∧ x ≤ W.length) ∧ Aside0 (NetW A0_0 c0_0 l0_0 A0_1 c0_1 l0_1 w wr) ∧ Aside0 (W.length ≤ cW ∧ Kd.C k45 wr AW W.length W)) (fun i _ => W.length - (intOf i).toNat)
  case atStart => exact ⟨0, rfl, ⟨by omega⟩, N8, KW⟩
  case round =>
    obtain ⟨x, rfl, HXX, NR, KR⟩ := hrel
    clear N8 KW m0 m1 m2 NC
    obtain ⟨r0, r1, r2⟩ := NR.out.cells
    have hx0 : 0 ≤ x := HXX.out.1
    by_cases hx : x < (W.length : Int)
    · obtain ⟨y, s, e1, e2, e3, e4, e5, e6, e7⟩ := FW.out x hx0 hx
      obtain ⟨ad, eAW, g0, g1, g2⟩ := at_T45 KR.out.2 x hx0 hx
      subst eAW
      rw [e1] at g0 g1 g2
      have E1 := Aside0.mk e1
      clear e1
      obtain ⟨y0, y1, y2, y3, y4, y5, y6, y7⟩ := y
      obtain ⟨s0, s1, s2⟩ := s
      dsimp only at e2 e3 e4 e5 e6 e7 g0 g1 g2
      simp only [findV] at e2
      have HFX := Aside0.mk e2
      have HY2 := Aside0.mk e3
      have HE6 := Aside0.mk e6
      have HE7 := Aside0.mk e7
      clear e2 e3 e6 e7
      have hx1 : (x + 1).toNat = x.toNat + 1 := by omega
      have HW : Aside0 (0 ≤ x + 1 ∧ x + 1 ≤ (W.length : Int)) := ⟨by omega⟩
      have HWW : Aside0 (wrap64 (x + 1) = x + 1) := ⟨by unfold wrap64; omega⟩
      have gl := World.block_lt_of_cell? wr _ g0
      have HX1 := Aside0.mk hx1
      clear hx1
      go_upto_region 18 with fail
      go_cut [21] (fun v21 wc => ∃ b : Nat, v21 = .pointer (some ⟨b, 0, none⟩) ∧ Aside0 (wc.heap[b]? = some (.cells #[.int .i64 y0, .int .i64 y1, .int .i64 y2, .int .i64 y3, .int .i64 y4, .int .i64 y5, .int .i64 y6, .int .u8 y7] 23 (0, 0))) ∧ Aside0 (Below wr.heap.size wr wc))
      case first =>
        go_region_held3 (fun W' => W'.cell? ⟨w.heap.size, 0, none⟩ = some (.slice A0_0 l0_0.length c0_0) ∧ W'.cell? ⟨w.heap.size, 1, none⟩ = some (.slice A0_1 l0_1.length c0_1) ∧ W'.cell? (ad.add (x.toNat * 3)) = some (.int .i64 s0)) (first | (with_reducible exact ⟨f0, f1, f3⟩) | (with_reducible exact ⟨r0, r1, g0⟩) | (with_reducible exact ⟨cell_alloc_at f0 _, cell_alloc_at f1 _, cell_alloc_at f3 _⟩) | (with_reducible exact ⟨cell_put8 f0 (Nat.ne_of_gt r2), cell_put8 f1 (Nat.ne_of_gt r2), cell_put8 f3 (Nat.ne_of_gt gl)⟩) | (with_reducible exact ⟨cell_drew_at r0, cell_drew_at r1, cell_drew_at g0⟩) | (with_reducible exact ⟨cell_alloc_at r0 _, cell_alloc_at r1 _, cell_alloc_at g0 _⟩) | (with_reducible exact ⟨cell_drew_at (cell_alloc_at r0 _), cell_drew_at (cell_alloc_at r1 _), cell_drew_at (cell_alloc_at g0 _)⟩) | (with_reducible exact ⟨cell_alloc_at (cell_drew_at r0) _, cell_alloc_at (cell_drew_at r1) _, cell_alloc_at (cell_drew_at g0) _⟩) ) (first | (go_at_call 35; first | (refine (network_Find.calls (l0_1.length + 1) A0_0 c0_0 l0_0 A0_1 c0_1 l0_1 s0 y0 y1 y2 y3 y4 y5 y6 y7 true (wr.drew) (Kd.C_below HR0.out (below_then NR.out.below NR.out.below.size (pw_below_drewN (Below.refl wr.heap.size wr) 1))) hc0_0 (Kd.C_below HR1.out (below_then NR.out.below NR.out.below.size (pw_below_drewN (Below.refl wr.heap.size wr) 1))) hc0_1 HFX.out).mono ?_; rintro en w3 ⟨rfl, hb⟩; have B9 := Aside0.mk (below_then (pw_below_drewN (Below.refl wr.heap.size wr) 1) (by first | exact Nat.le_refl _ | (simp; done)) hb); have N9 := Aside0.mk (NR.out.next B9.out); have f3 : w3.cell? (ad.add (x.toNat * 3)) = some (.int .i64 s0) := (B9.out.cell gl).trans g0; have f4 := Nat.lt_of_lt_of_le gl B9.out.size; clear hb; obtain ⟨f0, f1, f2⟩ := N9.out.cells) | (refine (network_Find.calls (l0_1.length + 1) A0_0 c0_0 l0_0 A0_1 c0_1 l0_1 s0 y0 y1 y2 y3 y4 y5 y6 y7 true ((wr.alloc (.cells #[.int .i64 0, .int .i64 0, .int .i64 0, .int .i64 0, .int .i64 0, .int .i64 0, .int .i64 0, .int .u8 0] 23)).drew) (Kd.C_below HR0.out (below_then NR.out.below NR.out.below.size (pw_below_drewN ((Below.refl wr.heap.size wr).alloc (Nat.le_refl _) (.cells #[.int .i64 0, .int .i64 0, .int .i64 0, .int .i64 0, .int .i64 0, .int .i64 0, .int .i64 0, .int .u8 0] 23)) 1))) hc0_0 (Kd.C_below HR1.out (below_then NR.out.below NR.out.below.size (pw_below_drewN ((Below.refl wr.heap.size wr).alloc (Nat.le_refl _) (.cells #[.int .i64 0, .int .i64 0, .int .i64 0, .int .i64 0, .int .i64 0, .int .i64 0, .int .i64 0, .int .u8 0] 23)) 1))) hc0_1 HFX.out).mono ?_; rintro en w3 ⟨rfl, hb⟩; have B9 := Aside0.mk (below_then (pw_below_drewN ((Below.refl wr.heap.size wr).alloc (Nat.le_refl _) (.cells #[.int .i64 0, .int .i64 0, .int .i64 0, .int .i64 0, .int .i64 0, .int .i64 0, .int .i64 0, .int .u8 0] 23)) 1) (by first | exact Nat.le_refl _ | (simp; done)) hb); have hz := blk_below (blk_drew (blk_new wr (.cells #[.int .i64 0, .int .i64 0, .int .i64 0, .int .i64 0, .int .i64 0, .int .i64 0, .int .i64 0, .int .u8 0] 23))) hb; have HZ := Aside0.mk hz; obtain ⟨q0, q1, q2, q3, q4, q5, q6, q7⟩ := cells23' hz; have p0 := blk_frozen hz 0; have p1 := blk_frozen hz 1; have p2 := blk_frozen hz 2; have p3 := blk_frozen hz 3; have p4 := blk_frozen hz 4; have p5 := blk_frozen hz 5; have p6 := blk_frozen hz 6; have p7 := blk_frozen hz 7; clear hz; have N9 := Aside0.mk (NR.out.next B9.out); have f3 : w3.cell? (ad.add (x.toNat * 3)) = some (.int .i64 s0) := (B9.out.cell gl).trans g0; have f4 := Nat.lt_of_lt_of_le gl B9.out.size; clear hb; obtain ⟨f0, f1, f2⟩ := N9.out.cells)))
        all_goals (go_wp2; go_meet)
        case rel => exact ⟨w3.heap.size, rfl, ⟨blk_new w3 _⟩, ⟨B9.out.alloc B9.out.size _⟩⟩
        case rel =>
          have hp := put8 HZ.out y0 y1 y2 y3 y4 y5 y6 y7 rfl
          exact ⟨wr.heap.size, rfl, ⟨hp.1⟩, ⟨hp.2.2 _ _ B9.out (Nat.le_refl _)⟩⟩
      case rest =>
      obtain ⟨b, rfl, HB, BW⟩ := hcut
      have NW := Aside0.mk (NR.out.next BW.out)
      have KW := Aside0.mk (Kd.C_below KR.out.2 BW.out)
      have n0 := NW.out.cells.1
      have n1 := NW.out.cells.2.1
      have hl2 := (cells23' HB.out).2.2.1
      have hl2b := blk_lt HB.out
      have hs2 := (BW.out.cell (World.block_lt_of_cell? wr _ g2)).trans g2
      have hs2b := World.block_lt_of_cell? wc _ hs2
      clear r0 r1 r2 g0 g1 g2 gl NR
      obtain ⟨Y, eY⟩ : ∃ Y, Y = (netOf l0_0 l0_1).arriveL y2 s2 := ⟨_, rfl⟩
      have HY : Aside0 (route_Arrive.f l0_0 l0_1 y2 s2 = some (Y, 0)) := ⟨by rw [eY]; exact arrive_f HI.out HP.out.valid HY2.out e4 e5⟩
      have LY : Aside0 (Y.length = l0_0.length) := ⟨by rw [eY]; unfold Net.Nw.arriveL; simp [netOf]⟩
      have HLA : Aside0 (rd Y (qt : Int) = en) := ⟨by rw [eY, HRA.out, HE6.out]⟩
      have hqtY : (qt : Int) < (Y.length : Int) := by rw [LY.out]; exact hqtL
      clear eY
      have HQY := Aside0.mk hqtY
      clear hqtY
      go_upto_region 19 with fail
      go_region_held3 (fun W' => W'.cell? ⟨w.heap.size, 0, none⟩ = some (.slice A0_0 l0_0.length c0_0) ∧ W'.cell? ⟨w.heap.size, 1, none⟩ = some (.slice A0_1 l0_1.length c0_1) ∧ W'.cell? ⟨b, 2, none⟩ = some (.int .i64 y2) ∧ W'.cell? ⟨(ad.add (x.toNat * 3)).block, (ad.add (x.toNat * 3)).off + 2, none⟩ = some (.int .i64 s2)) (first | (with_reducible exact ⟨f0, f1, f2, f3⟩) | exact ⟨n0, n1, hl2, hs2⟩) (first | (go_at_call 23; refine (route_Arrive.calls A0_0 c0_0 l0_0 A0_1 c0_1 l0_1 y2 s2 Y 0 _ (Kd.C_drew (Kd.C_below HR0.out NW.out.below)) hc0_0 (Kd.C_drew (Kd.C_below HR1.out NW.out.below)) hc0_1 HY.out).mono ?_; rintro e w4 ⟨vY, rfl, ho, hb⟩; obtain ⟨AY, cY, eY⟩ := Kd.R_slice ho; rw [LY.out] at eY; subst eY; have N9 := Aside0.mk ((NW.out.next (pw_below_drewN (Below.refl _ _) 1)).next hb); have K9 := Aside0.mk (Kd.C_below (Kd.C_drew KW.out) hb); have KY := Aside0.mk (Kd.R_reads' ho).2.2; have f0 := N9.out.cells.1; have f1 := N9.out.cells.2.1; have f2 : w4.cell? ⟨b, 2, none⟩ = some (.int .i64 y2) := (hb.cell hl2b).trans hl2; have f3 := (hb.cell hs2b).trans hs2; have B94 := Aside0.mk hb; clear ho hb))
      obtain ⟨aY, eY1, gY⟩ := Kd.at_int KY.out (qt : Int) hqt0 HQY.out
      subst eY1
      rw [HLA.out, hqtt] at gY
      obtain ⟨M, A', cc, hM, hcf, hKD, hMc'⟩ := stop_rest KR.out.2 KR.out.1 hx0 hx
      have hMc := Aside0.mk hMc'
      have HRT : Aside0 (route_Right.f l0_0 l0_1 y2 a3 s2 M = some true) := ⟨by rw [hM]; exact HE7.out⟩
      have HKD := Aside0.mk (Kd.C_below hKD BW.out)
      clear hKD hM hMc' n0 n1 hl2 hs2
      have hwx : IntKind.i64.wrap (x + 1) = x + 1 := by rw [IntKind.wrap_i64]; omega
      have hx1a : 0 ≤ x + 1 := by omega
      have hx1b : x + 1 ≤ (W.length : Int) := by omega
      have HKD9 := Aside0.mk (Kd.C_below (Kd.C_drew HKD.out) B94.out)
      go_upto_region 20 with fail
      go_region_held3 (fun W' => W'.cell? ⟨w.heap.size, 0, none⟩ = some (.slice A0_0 l0_0.length c0_0) ∧ W'.cell? ⟨w.heap.size, 1, none⟩ = some (.slice A0_1 l0_1.length c0_1) ∧ W'.cell? (aY.add qt) = some (.int .i64 en) ∧ W'.cell? ⟨b, 2, none⟩ = some (.int .i64 y2) ∧ W'.cell? ⟨(ad.add (x.toNat * 3)).block, (ad.add (x.toNat * 3)).off + 2, none⟩ = some (.int .i64 s2)) (first | (with_reducible exact ⟨k0, k1, k2, k3, k4⟩) | (with_reducible exact ⟨j0, j1, j2, j3, j4⟩) | exact ⟨f0, f1, gY, f2, f3⟩) (first | (go_at_call 25; (with_reducible refine (letterbaglaw33_place.calls 10 A0_0 c0_0 l0_0 A0_1 c0_1 l0_1 a3 (qt : Int) _ (Kd.C_drew (Kd.C_below HR0.out N9.out.below)) hc0_0 (Kd.C_drew (Kd.C_below HR1.out N9.out.below)) hc0_1 HPT.out).mono ?_); rintro e w5 ⟨rfl, hb⟩; have j0 := cell_below hb (cell_drew_at f0); have j1 := cell_below hb (cell_drew_at f1); have j2 := cell_below hb (cell_drew_at gY); have j3 := cell_below hb (cell_drew_at f2); have j4 := cell_below hb (cell_drew_at f3); have N10 := Aside0.mk ((N9.out.next (pw_below_drewN (Below.refl _ _) 1)).next hb); have K10 := Aside0.mk (Kd.C_below (Kd.C_drew K9.out) hb); have D10 := Aside0.mk (Kd.C_below (Kd.C_drew HKD9.out) hb); clear hb) | (go_at_call 33; (with_reducible refine (route_Right.calls A0_0 c0_0 l0_0 A0_1 c0_1 l0_1 y2 a3 s2 A' cc M true _ (Kd.C_below HR0.out N10.out.below) hc0_0 (Kd.C_below HR1.out N10.out.below) hc0_1 D10.out hMc.out HRT.out).mono ?_); rintro e w6 ⟨rfl, hb⟩; have k0 := cell_below hb j0; have k1 := cell_below hb j1; have k2 := cell_below hb j2; have k3 := cell_below hb j3; have k4 := cell_below hb j4; have N11 := Aside0.mk (N10.out.next hb); have K11 := Aside0.mk (Kd.C_below K10.out hb); clear hb))
      go_wp2
      go_roundw
      case rel => exact ⟨x + 1, by first | rfl | go_num | (rw [HWW.out]) | (simp only [HWW.out]), HW, N11, ⟨KR.out.1, K11.out⟩⟩
      case measure =>
        have := HW.out
        simp [intOf, HWW.out]
        try omega
    · obtain rfl : x = (W.length : Int) := by have := HXX.out; omega
      go_wp2
      go_ret
      exact ⟨rfl, NR.out.below⟩
end Go.Proofs.Ytdpadeklociinaa.PA
