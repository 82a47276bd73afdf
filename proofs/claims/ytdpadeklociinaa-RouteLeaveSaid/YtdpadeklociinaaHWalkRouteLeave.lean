import Derived.Test.YtdpadeklociinaaHNetW
import Derived.Test.YtdpadeklociinaaHLeave
import Derived.Test.YtdpadeklociinaaPAx8
import Derived.Test.YtdpadeklociinaaHWay
import Derived.Deep.RegionHeld3
set_option linter.unusedVariables false
set_option linter.unusedSimpArgs false
namespace Go.Proofs.Ytdpadeklociinaa.PA
open Go.RowKit Go.Maps Go.Proofs.YtdpadeklociinaaW.PrintWords Go.Proofs.YtdpadeklociinaaW.PrintLast Go.Proofs.YtdpadeklociinaaW.PrintMore Go.Proofs.Ytdpadeklociinaa
theorem pick_f (a n : Int) (h1 : 1 ≤ n) (h2 : n ≤ 1000000) : ∃ v, letterbagkit_Pick.f a n = some v ∧ 0 ≤ v ∧ v < n := by
  unfold letterbagkit_Pick.f
  have g1 := Int.tmod_lt_of_pos a (show 0 < n by omega)
  have g2 := Int.lt_tmod_of_pos a (show 0 < n by omega)
  rw [if_neg (by omega), if_neg (by omega)]
  by_cases h : Int.tmod a n < 0
  · rw [if_pos h, w64 (by omega) (by omega)]
    exact ⟨_, rfl, by omega, by omega⟩
  · rw [if_neg h]
    exact ⟨_, rfl, by omega, by omega⟩
theorem enc_some {o : Option Int} {t : Int} (h0 : 0 ≤ t) (ho : ∀ v, o = some v → t ≤ v) (dl : Int) : (0 ≤ Net.enc o ∧ Net.enc o ≤ dl) ↔ ∃ v, o = some v ∧ v ≤ dl := by
  cases o with
  | none => simp [Net.enc]
  | some v =>
    have := ho v rfl
    simp [Net.enc]
    intro _
    omega
/-- What is told of the latest ready time at a plant. -/
theorem leave_facts {N : Net.Nw} (hv : N.Valid) {p q dl : Int} (hp : p ∈ N.plants) (hq : q ∈ N.plants) (h0 : 0 ≤ dl) (h1 : dl ≤ 1051898399) :
    -1 ≤ Net.encN (N.late q dl p) ∧ (0 ≤ Net.encN (N.late q dl p) → dl - 86400 ≤ Net.encN (N.late q dl p) ∧ Net.encN (N.late q dl p) ≤ dl) ∧
    ∀ t, 0 ≤ t → dl - 86400 ≤ t → ((0 ≤ Net.enc (N.early p t q) ∧ Net.enc (N.early p t q) ≤ dl) ↔ t ≤ Net.encN (N.late q dl p)) := by
  have hg : ∀ v, N.late q dl p = some v → v ≤ 0 := fun v h => (bwd_good h0 h1 _ _ _ h).1
  refine ⟨?_, ?_, fun t ht hd => ?_⟩
  · cases h : N.late q dl p with
    | none => simp [Net.encN]
    | some v => have := hg v h; simp [Net.encN]; omega
  · cases h : N.late q dl p with
    | none => intro h; simp [Net.encN] at h
    | some v => intro _; exact (N.late_sound h).1
  · rw [enc_some ht (fun v h => (N.early_sound h).choose_spec.2.2.2), hv.leave_iff hp hq hd]
    cases h : N.late q dl p with
    | none => simp [Net.encN]; omega
    | some v => simp [Net.encN]
set_option maxRecDepth 100000 in
set_option maxHeartbeats 4000000 in
theorem RouteLeave.calls (k : Nat) (A0_0 : Option Addr) (c0_0 : Nat) (l0_0 : List Int) (A0_1 : Option Addr) (c0_1 : Nat) (l0_1 : List S23) (a1 : Int) (a2 : Int) (a3 : Int) (r : Bool) (w : World) (hr0_0 : Kd.C (Kd.int .i64) w A0_0 l0_0.length l0_0) (hc0_0 : l0_0.length ≤ c0_0) (hr0_1 : Kd.C k23 w A0_1 l0_1.length l0_1) (hc0_1 : l0_1.length ≤ c0_1) (h : netI l0_0 l0_1 = true ∧ r = true) :
    Calls Try.prog 5 #[.agg #[.slice A0_0 l0_0.length c0_0, .slice A0_1 l0_1.length c0_1], .int .i64 a1, .int .i64 a2, .int .i64 a3] w fun e w' => e = .returned (.bool r) ∧ Below w.heap.size w w' := by
  obtain ⟨hI, rfl⟩ := h
  have HI := Aside0.mk hI
  have HR0 := Aside0.mk hr0_0
  have HR1 := Aside0.mk hr0_1
  clear hr0_0 hr0_1 hI
  have N0 := Aside0.mk (NetW.new A0_0 c0_0 l0_0 A0_1 c0_1 l0_1 w)
  go_enter Try.func5, Try.ntmps5
  rcases fits_f HI.out a1 a1 a2 0 with hf | ⟨hf, F⟩
  · have HF := Aside0.mk hf
    clear hf
    go_wp2_with (first | (go_at_call 21; refine (letterbaglaw33_awake.calls 10 true _ awake_f).mono ?_; rintro e w2 ⟨rfl, hb⟩; have N1 := Aside0.mk (N0.out.next hb); clear hb; obtain ⟨m0, m1, m2⟩ := N1.out.cells) | (go_at_call 22; refine (letterbaglaw33_fits.calls (10 + 0) A0_0 c0_0 l0_0 A0_1 c0_1 l0_1 a1 a1 a2 false _ (Kd.C_below HR0.out N1.out.below) hc0_0 (Kd.C_below HR1.out N1.out.below) hc0_1 HF.out).mono ?_; rintro e w3 ⟨rfl, hb⟩; have N2 := Aside0.mk (N1.out.next hb); clear hb; obtain ⟨o0, o1, o2⟩ := N2.out.cells))
    go_ret
    exact ⟨rfl, N2.out.below⟩
  have HF := Aside0.mk hf
  have HP := Aside0.mk F
  clear hf F
  obtain ⟨L, hL⟩ : ∃ L, L = (netOf l0_0 l0_1).leaveL a1 a2 := ⟨_, rfl⟩
  have HL : Aside0 (route_Leave.f l0_0 l0_1 a1 a2 = some (L, 0)) := ⟨by rw [hL]; exact leave_f HI.out HP.out.valid HP.out.inA HP.out.t0 HP.out.t1⟩
  have LL : Aside0 (L.length = l0_0.length) := ⟨by rw [hL]; unfold Net.Nw.leaveL; simp [netOf]⟩
  have hrl : ∀ (f : Int → Int) (n : Nat) (hn : n < l0_0.length), rd (l0_0.map f) (n : Int) = f l0_0[n] := fun f n hn => by rw [rd_get (by rw [List.length_map]; exact hn), List.getElem_map]
  obtain ⟨q, hq⟩ : ∃ q, q = l0_0.idxOf a1 := ⟨_, rfl⟩
  have hqlt : q < l0_0.length := by rw [hq]; exact List.idxOf_lt_length_of_mem HP.out.inA
  have hqe : l0_0[q] = a1 := by subst hq; exact List.getElem_idxOf _
  have HPL : Aside0 (letterbaglaw33_place.f 10 l0_0 l0_1 a1 = some (q : Int)) := ⟨by rw [place_f a1 l0_0 l0_1 (by have := HP.out.nine; omega) 10 (by have := HP.out.nine; omega), placeV_pos HP.out.inA, hq]⟩
  have HQV : Aside0 (rd L (q : Int) = a2) := ⟨by
    rw [hL]
    unfold Net.Nw.leaveL
    rw [show (netOf l0_0 l0_1).plants = l0_0 from rfl, hrl _ q hqlt, hqe, Net.Nw.late_self]
    simp [Net.encN]⟩
  have FA : Aside0 (∀ x : Int, 0 ≤ x → x < l0_0.length → rd l0_0 x ∈ l0_0 ∧ -1 ≤ rd L x ∧ (0 ≤ rd L x → a2 - 86400 ≤ rd L x ∧ rd L x ≤ a2) ∧ ∀ t, 0 ≤ t → a2 - 86400 ≤ t → ((0 ≤ rd ((netOf l0_0 l0_1).arriveL (rd l0_0 x) t) (q : Int) ∧ rd ((netOf l0_0 l0_1).arriveL (rd l0_0 x) t) (q : Int) ≤ a2) ↔ t ≤ rd L x)) := ⟨by
    intro x h0 h1
    obtain ⟨n, rfl⟩ : ∃ n : Nat, x = (n : Int) := ⟨x.toNat, by omega⟩
    have hn : n < l0_0.length := by omega
    have hm : l0_0[n] ∈ l0_0 := List.getElem_mem hn
    have := leave_facts HP.out.valid (p := l0_0[n]) (q := a1) hm HP.out.inA HP.out.t0 HP.out.t1
    rw [rd_get hn, hL]
    unfold Net.Nw.leaveL Net.Nw.arriveL
    rw [show (netOf l0_0 l0_1).plants = l0_0 from rfl, hrl _ n hn]
    refine ⟨hm, this.1, this.2.1, fun t ht hd => ?_⟩
    rw [hrl _ q hqlt, hqe]
    exact this.2.2 t ht hd⟩
  have h9 := HP.out.nine
  have ht0 := HP.out.t0
  have ht1 := HP.out.t1
  have hq0 : (0 : Int) ≤ q := by omega
  have hqn : (q : Int) < (l0_0.length : Int) := by omega
  have hqL : (q : Int) < (L.length : Int) := by rw [LL.out]; exact hqn
  have hqt : ((q : Int)).toNat = q := by omega
  clear hL hrl hq hqe hqlt
  go_upto_region 8 with (first | (go_at_call 21; refine (letterbaglaw33_awake.calls 10 true _ awake_f).mono ?_; rintro e w2 ⟨rfl, hb⟩; have N1 := Aside0.mk (N0.out.next hb); clear hb; obtain ⟨m0, m1, m2⟩ := N1.out.cells) | (go_at_call 22; refine (letterbaglaw33_fits.calls (10 + 0) A0_0 c0_0 l0_0 A0_1 c0_1 l0_1 a1 a1 a2 true _ (Kd.C_below HR0.out N1.out.below) hc0_0 (Kd.C_below HR1.out N1.out.below) hc0_1 HF.out).mono ?_; rintro e w3 ⟨rfl, hb⟩; have N2 := Aside0.mk (N1.out.next hb); clear hb; obtain ⟨o0, o1, o2⟩ := N2.out.cells) | (go_at_call 24; refine (route_Leave.calls A0_0 c0_0 l0_0 A0_1 c0_1 l0_1 a1 a2 L 0 _ (Kd.C_below HR0.out N2.out.below) hc0_0 (Kd.C_below HR1.out N2.out.below) hc0_1 HL.out).mono ?_; rintro e w4 ⟨vL, rfl, ho, hb⟩; obtain ⟨AL, cL, eL⟩ := Kd.R_slice ho; rw [LL.out] at eL; subst eL; have N3 := Aside0.mk (N2.out.next hb); have KL := Aside0.mk (Kd.R_reads' ho).2.2; clear ho hb; obtain ⟨q0, q1, q2⟩ := N3.out.cells) | (go_at_call 25; refine (letterbaglaw33_place.calls 10 A0_0 c0_0 l0_0 A0_1 c0_1 l0_1 a1 (q : Int) _ (Kd.C_below HR0.out N3.out.below) hc0_0 (Kd.C_below HR1.out N3.out.below) hc0_1 HPL.out).mono ?_; rintro e w5 ⟨rfl, hb⟩; have N4 := Aside0.mk (N3.out.next hb); have KL2 := Aside0.mk (Kd.C_below KL.out hb); clear hb KL; obtain ⟨s0, s1, s2⟩ := N4.out.cells; obtain ⟨aL, eL, gL⟩ := Kd.at_int KL2.out (q : Int) hq0 hqL; subst eL; rw [HQV.out, hqt] at gL))
  go_cut [11] (fun v11 wc => ∃ low : Int, v11 = .int .i64 low ∧ Aside0 (0 ≤ low ∧ low ≤ a2 ∧ a2 - 86400 ≤ low ∧ (low = 0 ∨ low = a2 - 86400)) ∧ Aside0 (NetW A0_0 c0_0 l0_0 A0_1 c0_1 l0_1 w wc) ∧ Aside0 (Kd.C (Kd.int .i64) wc (some aL) L.length L))
  case first =>
    go_wp2
    go_meet
    case rel => exact ⟨_, rfl, ⟨by refine ⟨?_, ?_, ?_, ?_⟩ <;> omega⟩, N4, KL2⟩
  case rest =>
    obtain ⟨low, rfl, HLOW, NC, KC⟩ := hcut
    clear N4 KL2 gL s0 s1 s2
    obtain ⟨u1, u2, u3, u4⟩ := HLOW.out
    obtain ⟨pv, hpk, hp0, hp1⟩ := pick_f a3 (a2 - low + 1) (by omega) (by omega)
    have HPK := Aside0.mk hpk
    clear hpk
    obtain ⟨so, hso⟩ : ∃ so, so = low + pv := ⟨_, rfl⟩
    have hs0 : 0 ≤ so ∧ so ≤ a2 ∧ a2 - 86400 ≤ so := by omega
    have HSO := Aside0.mk hso
    clear hso
    go_upto_region 10 with (first | (go_at_call 26; refine (letterbagkit_Pick.calls a3 (a2 - low + 1) pv _ HPK.out).mono ?_; rintro e w6 ⟨rfl, ⟨md, rfl⟩⟩; have N6 := Aside0.mk (NC.out.next (pw_below_drewN (Below.refl _ _) md)); have K6 := Aside0.mk (Kd.C_drewN KC.out md)))
    (try rw [← HSO.out])
    go_wp2_with fail
    go_loopw [13] (fun i wr => ∃ x : Int, i = .int .i64 x ∧ Aside0 (0 ≤ x ∧ x ≤ l0_0.length) ∧ Aside0 (NetW A0_0 c0_0 l0_0 A0_1 c0_1 l0_1 w wr) ∧ Aside0 (Kd.C (Kd.int .i64) wr (some aL) L.length L)) (fun i _ => l0_0.length - (intOf i).toNat)
    case atStart => exact ⟨0, rfl, ⟨by omega⟩, N6, K6⟩
    case round =>
      obtain ⟨x, rfl, HXX, NR, KR⟩ := hrel
      clear N6 K6
      obtain ⟨r0, r1, r2⟩ := NR.out.cells
      have hx0 : 0 ≤ x := HXX.out.1
      by_cases hx : x < (l0_0.length : Int)
      · have hxL : x < (L.length : Int) := by rw [LL.out]; exact hx
        obtain ⟨aP, eP, gP⟩ := Kd.at_int (Kd.C_below HR0.out NR.out.below) x hx0 hx
        subst eP
        obtain ⟨aL', eL', gL⟩ := Kd.at_int KR.out x hx0 hxL
        cases eL'
        obtain ⟨hm, f1, f2, f3⟩ := FA.out x hx0 hx
        have HIFF := Aside0.mk f3
        have HW : Aside0 (0 ≤ x + 1 ∧ x + 1 ≤ (l0_0.length : Int)) := ⟨by omega⟩
        have HWW : Aside0 (wrap64 (x + 1) = x + 1) := ⟨by unfold wrap64; omega⟩
        clear f3
        generalize rd l0_0 x = p at gP hm HIFF
        obtain ⟨li, hli⟩ : ∃ li, rd L x = li := ⟨_, rfl⟩
        rw [hli] at gL f1 f2 HIFF
        have d1 : decide (li < -1) = false := decide_eq_false (by omega)
        have HLI : Aside0 (rd L x = li) := ⟨hli⟩
        clear hli
        go_upto_region 14 with fail
        go_cut [104] (fun v104 wc => v104 = .bool false ∧ Aside0 (NetW (some aP) c0_0 l0_0 A0_1 c0_1 l0_1 w wc) ∧ Aside0 (Kd.C (Kd.int .i64) wc (some aL) L.length L))
        case first =>
          by_cases c2 : 0 ≤ li
          · have d2 := decide_eq_true c2
            obtain ⟨b1, b2⟩ := f2 c2
            have d3 : decide (li < low) = false := decide_eq_false (by omega)
            have d4 : decide (a2 < li) = false := decide_eq_false (by omega)
            go_wp2
            go_meet
            case rel => exact ⟨rfl, NR, KR⟩
          · have d2 := decide_eq_false c2
            go_wp2
            go_meet
            case rel => exact ⟨rfl, NR, KR⟩
        case rest =>
        clear NR KR gL gP r0 r1 r2
        obtain ⟨rfl, NR, KR⟩ := hcut
        obtain ⟨r0, r1, r2⟩ := NR.out.cells
        obtain ⟨X1, eX1⟩ : ∃ X, X = (netOf l0_0 l0_1).arriveL p so := ⟨_, rfl⟩
        have HX1 : Aside0 (route_Arrive.f l0_0 l0_1 p so = some (X1, 0)) := ⟨by rw [eX1]; exact arrive_f HI.out HP.out.valid hm (by omega) (by omega)⟩
        have LX1 : Aside0 (X1.length = l0_0.length) := ⟨by rw [eX1]; unfold Net.Nw.arriveL; simp [netOf]⟩
        have hqX1 : (q : Int) < (X1.length : Int) := by rw [LX1.out]; exact hqn
        have IX1 := HIFF.out so (by omega) (by omega)
        rw [← eX1] at IX1
        have IX1' := Aside0.mk IX1
        clear IX1 eX1
        go_upto_region 20 with (first | (go_at_call 23; refine (route_Arrive.calls (some aP) c0_0 l0_0 A0_1 c0_1 l0_1 p so X1 0 _ (Kd.C_below HR0.out NR.out.below) hc0_0 (Kd.C_below HR1.out NR.out.below) hc0_1 HX1.out).mono ?_; rintro e wX1 ⟨vX1, rfl, ho, hb⟩; obtain ⟨AX1, cX1, eX1⟩ := Kd.R_slice ho; rw [LX1.out] at eX1; subst eX1; have N7 := Aside0.mk (NR.out.next hb); have K7 := Aside0.mk (Kd.C_below KR.out hb); have KX1 := Aside0.mk (Kd.R_reads' ho).2.2; clear ho hb; obtain ⟨gX10, gX11, gX12⟩ := N7.out.cells) | (go_at_call 25; refine (letterbaglaw33_place.calls 10 (some aP) c0_0 l0_0 A0_1 c0_1 l0_1 a1 (q : Int) _ (Kd.C_below HR0.out N7.out.below) hc0_0 (Kd.C_below HR1.out N7.out.below) hc0_1 HPL.out).mono ?_; rintro e wpX1 ⟨rfl, hb⟩; have N8 := Aside0.mk (N7.out.next hb); have K8 := Aside0.mk (Kd.C_below K7.out hb); have KYX1 := Aside0.mk (Kd.C_below KX1.out hb); clear hb; obtain ⟨zX10, zX11, zX12⟩ := N8.out.cells; obtain ⟨aQX1, eQX1, gQX1⟩ := Kd.at_int KYX1.out (q : Int) hq0 hqX1; subst eQX1; rw [hqt] at gQX1; obtain ⟨aWX1, eWX1, gWX1⟩ := Kd.at_int K8.out x hx0 hxL; cases eWX1; rw [HLI.out] at gWX1))
        go_cut [18] (fun v18 wc => v18 = .bool (decide (so ≤ li)) ∧ Aside0 (NetW (some aP) c0_0 l0_0 A0_1 c0_1 l0_1 w wc) ∧ Aside0 (Kd.C (Kd.int .i64) wc (some aL) L.length L))
        case first =>
          have hI := IX1'.out
          by_cases c5 : 0 ≤ rd X1 (q : Int)
          · have d5 := decide_eq_true c5
            by_cases c6 : rd X1 (q : Int) ≤ a2
            · have d6 := decide_eq_true c6
              have d7 : decide (so ≤ li) = true := decide_eq_true (hI.1 ⟨c5, c6⟩)
              go_wp2
              go_meet
              case rel => exact ⟨by first | rw [d7] | (simp only [d7]) | rfl, N8, K8⟩
            · have d6 := decide_eq_false c6
              have d7 : decide (so ≤ li) = false := decide_eq_false (fun h => c6 (hI.2 h).2)
              go_wp2
              go_meet
              case rel => exact ⟨by first | rw [d7] | (simp only [d7]) | rfl, N8, K8⟩
          · have d5 := decide_eq_false c5
            have d7 : decide (so ≤ li) = false := decide_eq_false (fun h => c5 (hI.2 h).1)
            go_wp2
            go_meet
            case rel => exact ⟨by first | rw [d7] | (simp only [d7]) | rfl, N8, K8⟩
        case rest =>
        clear N7 N8 K7 K8 KX1 KYX1 gQX1 gWX1 zX10 zX11 zX12 gX10 gX11 gX12 NR KR r0 r1 r2
        obtain ⟨rfl, NR, KR⟩ := hcut
        obtain ⟨r0, r1, r2⟩ := NR.out.cells
        obtain ⟨aL', eL', gL⟩ := Kd.at_int KR.out x hx0 hxL
        cases eL'
        rw [HLI.out] at gL
        generalize hbs : decide (so ≤ li) = bs
        by_cases c2 : 0 ≤ li
        · have c2' : decide (li < 0) = false := decide_eq_false (by omega)
          obtain ⟨b1, b2⟩ := f2 c2
          obtain ⟨X2, eX2⟩ : ∃ X, X = (netOf l0_0 l0_1).arriveL p li := ⟨_, rfl⟩
          have HX2 : Aside0 (route_Arrive.f l0_0 l0_1 p li = some (X2, 0)) := ⟨by rw [eX2]; exact arrive_f HI.out HP.out.valid hm (by omega) (by omega)⟩
          have LX2 : Aside0 (X2.length = l0_0.length) := ⟨by rw [eX2]; unfold Net.Nw.arriveL; simp [netOf]⟩
          have hqX2 : (q : Int) < (X2.length : Int) := by rw [LX2.out]; exact hqn
          have IX2 := HIFF.out li (by omega) (by omega)
          rw [← eX2] at IX2
          have IX2' := Aside0.mk IX2
          clear IX2 eX2
          go_upto_region 24 with fail
          go_region_held3 (fun W' => W'.cell? ⟨w.heap.size, 0, none⟩ = some (.slice (some aP) l0_0.length c0_0) ∧ W'.cell? ⟨w.heap.size, 1, none⟩ = some (.slice A0_1 l0_1.length c0_1) ∧ W'.cell? (aL.add x.toNat) = some (.int .i64 li)) (first | exact ⟨gX20, gX21, gZX2⟩ | exact ⟨r0, r1, gL⟩) (first | (go_at_call 23; refine (route_Arrive.calls (some aP) c0_0 l0_0 A0_1 c0_1 l0_1 p li X2 0 _ (Kd.C_drew (Kd.C_below HR0.out NR.out.below)) hc0_0 (Kd.C_drew (Kd.C_below HR1.out NR.out.below)) hc0_1 HX2.out).mono ?_; rintro e wX2 ⟨vX2, rfl, ho, hb⟩; obtain ⟨AX2, cX2, eX2⟩ := Kd.R_slice ho; rw [LX2.out] at eX2; subst eX2; have N9 := Aside0.mk ((NR.out.next (pw_below_drewN (Below.refl _ _) 1)).next hb); have K9 := Aside0.mk (Kd.C_below (Kd.C_drew KR.out) hb); have KX2 := Aside0.mk (Kd.R_reads' ho).2.2; clear ho hb; obtain ⟨gX20, gX21, gX22⟩ := N9.out.cells; obtain ⟨aZX2, eZX2, gZX2⟩ := Kd.at_int K9.out x hx0 hxL; cases eZX2; rw [HLI.out] at gZX2))
          go_upto_region 26 with (first | (go_at_call 25; refine (letterbaglaw33_place.calls 10 (some aP) c0_0 l0_0 A0_1 c0_1 l0_1 a1 (q : Int) _ (Kd.C_below HR0.out N9.out.below) hc0_0 (Kd.C_below HR1.out N9.out.below) hc0_1 HPL.out).mono ?_; rintro e wpX2 ⟨rfl, hb⟩; have N10 := Aside0.mk (N9.out.next hb); have K10 := Aside0.mk (Kd.C_below K9.out hb); have KYX2 := Aside0.mk (Kd.C_below KX2.out hb); clear hb; obtain ⟨zX20, zX21, zX22⟩ := N10.out.cells; obtain ⟨aQX2, eQX2, gQX2⟩ := Kd.at_int KYX2.out (q : Int) hq0 hqX2; subst eQX2; rw [hqt] at gQX2; obtain ⟨aWX2, eWX2, gWX2⟩ := Kd.at_int K10.out x hx0 hxL; cases eWX2; rw [HLI.out] at gWX2))
          obtain ⟨h1, h2⟩ := IX2'.out.2 (Int.le_refl _)
          have d8 : decide (rd X2 (q : Int) < 0) = false := decide_eq_false (by omega)
          have d9 : decide (a2 < rd X2 (q : Int)) = false := decide_eq_false (by omega)
          by_cases c7 : li = 1051898399
          · have c7' : (li == 1051898399) = true := by simp [c7]
            have HC7 := Aside0.mk c7
            clear c7
            go_wp2
            go_roundw
            case rel => exact ⟨x + 1, by first | rfl | go_num | (rw [HWW.out]) | (simp only [HWW.out]), HW, N10, K10⟩
            case measure =>
              have := HW.out
              simp [intOf, HWW.out]
              try omega
          · have c7' : (li == 1051898399) = false := by simpa using c7
            obtain ⟨X3, eX3⟩ : ∃ X, X = (netOf l0_0 l0_1).arriveL p (li + 1) := ⟨_, rfl⟩
            have HX3 : Aside0 (route_Arrive.f l0_0 l0_1 p (li + 1) = some (X3, 0)) := ⟨by rw [eX3]; exact arrive_f HI.out HP.out.valid hm (by omega) (by omega)⟩
            have LX3 : Aside0 (X3.length = l0_0.length) := ⟨by rw [eX3]; unfold Net.Nw.arriveL; simp [netOf]⟩
            have hqX3 : (q : Int) < (X3.length : Int) := by rw [LX3.out]; exact hqn
            have IX3 := HIFF.out (li + 1) (by omega) (by omega)
            rw [← eX3] at IX3
            have IX3' := Aside0.mk IX3
            clear IX3 eX3
            have hwl : IntKind.i64.wrap (li + 1) = li + 1 := by rw [IntKind.wrap_i64]; omega
            have hwm : wrap64 (li + 1) = li + 1 := by unfold wrap64; omega
            go_upto_region 29 with fail
            go_region_held3 (fun W' => W'.cell? ⟨w.heap.size, 0, none⟩ = some (.slice (some aP) l0_0.length c0_0) ∧ W'.cell? ⟨w.heap.size, 1, none⟩ = some (.slice A0_1 l0_1.length c0_1) ∧ W'.cell? (aL.add x.toNat) = some (.int .i64 li)) (first | exact ⟨gX30, gX31, gZX3⟩ | exact ⟨zX20, zX21, gWX2⟩) (first | (go_at_call 23; refine (route_Arrive.calls (some aP) c0_0 l0_0 A0_1 c0_1 l0_1 p (li + 1) X3 0 _ (Kd.C_drew (Kd.C_below HR0.out N10.out.below)) hc0_0 (Kd.C_drew (Kd.C_below HR1.out N10.out.below)) hc0_1 HX3.out).mono ?_; rintro e wX3 ⟨vX3, rfl, ho, hb⟩; obtain ⟨AX3, cX3, eX3⟩ := Kd.R_slice ho; rw [LX3.out] at eX3; subst eX3; have N11 := Aside0.mk ((N10.out.next (pw_below_drewN (Below.refl _ _) 1)).next hb); have K11 := Aside0.mk (Kd.C_below (Kd.C_drew K10.out) hb); have KX3 := Aside0.mk (Kd.R_reads' ho).2.2; clear ho hb; obtain ⟨gX30, gX31, gX32⟩ := N11.out.cells; obtain ⟨aZX3, eZX3, gZX3⟩ := Kd.at_int K11.out x hx0 hxL; cases eZX3; rw [HLI.out] at gZX3))
            go_upto_region 31 with (first | (go_at_call 25; refine (letterbaglaw33_place.calls 10 (some aP) c0_0 l0_0 A0_1 c0_1 l0_1 a1 (q : Int) _ (Kd.C_below HR0.out N11.out.below) hc0_0 (Kd.C_below HR1.out N11.out.below) hc0_1 HPL.out).mono ?_; rintro e wpX3 ⟨rfl, hb⟩; have N12 := Aside0.mk (N11.out.next hb); have K12 := Aside0.mk (Kd.C_below K11.out hb); have KYX3 := Aside0.mk (Kd.C_below KX3.out hb); clear hb; obtain ⟨zX30, zX31, zX32⟩ := N12.out.cells; obtain ⟨aQX3, eQX3, gQX3⟩ := Kd.at_int KYX3.out (q : Int) hq0 hqX3; subst eQX3; rw [hqt] at gQX3; obtain ⟨aWX3, eWX3, gWX3⟩ := Kd.at_int K12.out x hx0 hxL; cases eWX3; rw [HLI.out] at gWX3))
            by_cases c8 : 0 ≤ rd X3 (q : Int)
            · have d10 := decide_eq_true c8
              have d11 : decide (rd X3 (q : Int) ≤ a2) = false := decide_eq_false (fun h => absurd (IX3'.out.1 ⟨c8, h⟩) (by omega))
              go_wp2
              go_roundw
              case rel => exact ⟨x + 1, by first | rfl | go_num | (rw [HWW.out]) | (simp only [HWW.out]), HW, N12, K12⟩
              case measure =>
                have := HW.out
                simp [intOf, HWW.out]
                try omega
            · have d10 := decide_eq_false c8
              go_wp2
              go_roundw
              case rel => exact ⟨x + 1, by first | rfl | go_num | (rw [HWW.out]) | (simp only [HWW.out]), HW, N12, K12⟩
              case measure =>
                have := HW.out
                simp [intOf, HWW.out]
                try omega
        · have c2' : decide (li < 0) = true := decide_eq_true (by omega)
          go_wp2
          go_roundw
          case rel => exact ⟨x + 1, by first | rfl | go_num | (rw [HWW.out]) | (simp only [HWW.out]), HW, NR, KR⟩
          case measure =>
            have := HW.out
            simp [intOf, HWW.out]
            try omega
      · obtain rfl : x = (l0_0.length : Int) := by have := HXX.out; omega
        go_wp2
        go_ret
        exact ⟨rfl, NR.out.below⟩
end Go.Proofs.Ytdpadeklociinaa.PA
