import Derived.Test.YtdpadeklociinaaHNetW
import Derived.Test.YtdpadeklociinaaHFacts
import Derived.Test.YtdpadeklociinaaHCut2
import Derived.Test.YtdpadeklociinaaPAx8
import Derived.Test.YtdpadeklociinaaPAx10
import Derived.Deep.RegionHeld3
set_option linter.unusedVariables false
set_option linter.unusedSimpArgs false
namespace Go.Proofs.Ytdpadeklociinaa.PA
open Go.RowKit Go.Maps Go.Proofs.YtdpadeklociinaaW.PrintWords Go.Proofs.YtdpadeklociinaaW.PrintLast Go.Proofs.YtdpadeklociinaaW.PrintMore Go.Proofs.Ytdpadeklociinaa
theorem pick_at (a n : Int) (h1 : 1 ≤ n) (h2 : n ≤ 1000000) : ∃ v, letterbagkit_Pick.f a n = some v ∧ 0 ≤ v ∧ v < n := by
  unfold letterbagkit_Pick.f
  have g1 := Int.tmod_lt_of_pos a (show 0 < n by omega)
  have g2 := Int.lt_tmod_of_pos a (show 0 < n by omega)
  rw [if_neg (by omega), if_neg (by omega)]
  by_cases h : Int.tmod a n < 0
  · rw [if_pos h, w64 (by omega) (by omega)]
    exact ⟨_, rfl, by omega, by omega⟩
  · rw [if_neg h]
    exact ⟨_, rfl, by omega, by omega⟩
theorem same_ints_l (l : List Int) (hl : l.length ≤ 1000) : ∀ (k i : Nat), i ≤ l.length → l.length < k + i → letterbagkit_SameInts.l0 k l l (i : Int) = some true
  | 0, i, h1, h2 => by omega
  | k + 1, i, h1, h2 => by
    simp only [letterbagkit_SameInts.l0]
    by_cases hi : i < l.length
    · rw [if_pos (by omega), if_pos (by omega), if_pos (by omega), if_pos True.intro, w64 (by omega) (by omega)]
      exact same_ints_l l hl k (i + 1) (by omega) (by omega)
    · rw [if_neg (by omega)]
theorem same_ints (l : List Int) (hl : l.length ≤ 100) : letterbagkit_SameInts.f 300 l l = some true := by
  unfold letterbagkit_SameInts.f
  rw [if_pos rfl]
  exact same_ints_l l (by omega) 300 0 (Nat.zero_le _) (by omega)
theorem same_legs_l (l : List S23) (hl : l.length ≤ 1000) : ∀ (k i : Nat), i ≤ l.length → l.length < k + i → letterbagkit_SameLegs.l0 k l l (i : Int) = some true
  | 0, i, h1, h2 => by omega
  | k + 1, i, h1, h2 => by
    simp only [letterbagkit_SameLegs.l0]
    by_cases hi : i < l.length
    · rw [if_pos (by omega), if_pos (by omega), if_pos (by omega), if_neg (by simp), w64 (by omega) (by omega)]
      exact same_legs_l l hl k (i + 1) (by omega) (by omega)
    · rw [if_neg (by omega)]
theorem same_legs (l : List S23) (hl : l.length ≤ 100) : letterbagkit_SameLegs.f 300 l l = some true := by
  unfold letterbagkit_SameLegs.f
  rw [if_pos rfl]
  exact same_legs_l l (by omega) 300 0 (Nat.zero_le _) (by omega)
theorem cell_put2 {w : World} {p : Addr} {u v0 v1 : Value} {g : Nat} (h : w.cell? p = some u) (hne : g ≠ p.block) : ((w.setCell ⟨g, 0, none⟩ v0).setCell ⟨g, 1, none⟩ v1).cell? p = some u := cell_set_at (cell_set_at h hne) hne
theorem leg_rest {wr : World} {ad : Addr} {L : List S23} {cL : Nat} {x : Int} (hC : Kd.C k23 wr (some ad) L.length L) (hc : L.length ≤ cL) (h0 : 0 ≤ x) (h1 : x ≤ L.length) :
    ∃ (M : List S23) (A' : Option Addr) (cc : Nat), M = L.drop x.toNat ∧ (∀ w : World, (Instr.slice 25 (.slice (some ad) L.length cL) (some (.int .i64 x)) none none).run Try.prog w = .ok (.slice A' M.length cc) w) ∧ Kd.C k23 wr A' M.length M ∧ M.length ≤ cc := by
  obtain ⟨i23, hi23, _, hsz23, _⟩ := info_parts info23
  have hcf := cutFrom (P := Try.prog) 25 23 .i64 Try.underlying25 hi23 8 hsz23 (some ad) L.length cL x (by omega) (by omega)
  have hKD := C_dropK (m := x.toNat) (c := cL) hC (by omega) hc
  have hl : L.length - x.toNat = (L.drop x.toNat).length := by rw [List.length_drop]
  refine ⟨L.drop x.toNat, _, cL - x.toNat, rfl, ?_, hKD, by rw [List.length_drop]; omega⟩
  intro w
  rw [← hl]
  exact hcf w
theorem rd_row {l0 : List Int} {l1 : List S23} (a t : Int) (n : Nat) (hn : n < l0.length) : rd ((netOf l0 l1).arriveL a t) (n : Int) = Net.enc ((netOf l0 l1).early a t l0[n]) := by
  unfold Net.Nw.arriveL
  rw [show (netOf l0 l1).plants = l0 from rfl, rd_get (by rw [List.length_map]; exact hn), List.getElem_map]
/-- Whether one of the first stops has a leg. -/
def hasV (id : Int) (W : List S45) (x : Int) : Bool := (W.take x.toNat).any fun s => s.f0 == id
theorem hasV_succ (id : Int) (W : List S45) (x : Int) (h0 : 0 ≤ x) (h1 : x < W.length) : hasV id W (x + 1) = (hasV id W x || ((rd_T45 W x).f0 == id)) := by
  unfold hasV
  rw [show (x + 1).toNat = x.toNat + 1 by omega, List.take_succ_eq_append_getElem (by omega), List.any_append]
  have hr : rd_T45 W x = W[x.toNat]'(by omega) := by
    have := rd45_get (l := W) (i := x.toNat) (by omega)
    rw [show ((x.toNat : Nat) : Int) = x by omega] at this
    exact this
  rw [hr]
  simp
def RouteWithout.T7 : Bool × List (List Nat × List Nat) := (true, [([], []), ([0], [0]), ([1], [1]), ([2], [2]), ([3, 2], [2, 3]), ([2], [2]), ([5, 2], [2, 5]), ([4, 6, 2, 2], [2, 4, 6]), ([7, 2], [2, 7]), ([2, 8], [2, 8]), ([9, 7], [9]), ([10], [10]), ([11, 10], [10, 11]), ([10], [10]), ([10], [10]), ([14, 10], [10, 14]), ([10], [10]), ([15, 16, 10], [10, 15, 16]), ([13, 17, 10, 10], [10, 13, 17]), ([10], [10]), ([19, 10], [10, 19]), ([10], [10]), ([21, 10], [10, 21]), ([20, 22, 10], [10, 20, 22]), ([18, 23, 18, 10], [10, 18, 23]), ([12, 24, 24, 10], [10, 12, 24]), ([25, 10], [10, 25]), ([10, 26], [10, 26])])
def RouteWithout.B7 : List Nat := [0, 1, 3, 7, 15, 7, 39, 127, 255, 511, 1023, 2047, 4095, 2047, 2047, 18431, 2047, 116735, 255999, 2047, 526335, 2047, 2099199, 7866367, 16771071, 33554431, 67108863, 134217727]
theorem RouteWithout.tab7 : rtab .any (opsOf Try.f6 7) = RouteWithout.T7 := by kernel_rfl
theorem RouteWithout.bits7 : waitsOk RouteWithout.T7.2 RouteWithout.B7 = true := by kernel_rfl
set_option maxRecDepth 100000 in
set_option maxHeartbeats 16000000 in
theorem RouteWithout.calls (k : Nat) (A0_0 : Option Addr) (c0_0 : Nat) (l0_0 : List Int) (A0_1 : Option Addr) (c0_1 : Nat) (l0_1 : List S23) (a1 : Int) (a2 : Int) (a3 : Int) (a4 : Int) (r : Bool) (w : World) (hr0_0 : Kd.C (Kd.int .i64) w A0_0 l0_0.length l0_0) (hc0_0 : l0_0.length ≤ c0_0) (hr0_1 : Kd.C k23 w A0_1 l0_1.length l0_1) (hc0_1 : l0_1.length ≤ c0_1) (h : netI l0_0 l0_1 = true ∧ r = true) :
    Calls Try.prog 6 #[.agg #[.slice A0_0 l0_0.length c0_0, .slice A0_1 l0_1.length c0_1], .int .i64 a1, .int .i64 a2, .int .i64 a3, .int .i64 a4] w fun e w' => e = .returned (.bool r) ∧ Below w.heap.size w w' := by
  obtain ⟨hI, rfl⟩ := h
  have HI := Aside0.mk hI
  have HR0_0 := Aside0.mk hr0_0
  have HR0_1 := Aside0.mk hr0_1
  have HC0_0 := Aside0.mk hc0_0
  have HC0_1 := Aside0.mk hc0_1
  clear hr0_0 hr0_1 hI
  have N0 := Aside0.mk (NetW.new A0_0 c0_0 l0_0 A0_1 c0_1 l0_1 w)
  go_enter Try.func6, Try.ntmps6
  rcases fits_f HI.out a1 a2 a3 0 with hf | ⟨hf, F⟩
  · have HF := Aside0.mk hf
    clear hf
    go_wp2_with (first | (go_at_call 21; refine (letterbaglaw33_awake.calls 10 true _ awake_f).mono ?_; rintro e w2 ⟨rfl, hb⟩; have N1 := Aside0.mk (N0.out.next hb); clear hb; obtain ⟨m0, m1, m2⟩ := N1.out.cells) | (go_at_call 22; refine (letterbaglaw33_fits.calls (10 + 0) A0_0 c0_0 l0_0 A0_1 c0_1 l0_1 a1 a2 a3 false _ (Kd.C_below HR0_0.out N1.out.below) hc0_0 (Kd.C_below HR0_1.out N1.out.below) hc0_1 HF.out).mono ?_; rintro e w3 ⟨rfl, hb⟩; have N2 := Aside0.mk (N1.out.next hb); clear hb; obtain ⟨o0, o1, o2⟩ := N2.out.cells))
    go_ret
    exact ⟨rfl, N2.out.below⟩
  have HF := Aside0.mk hf
  have HP := Aside0.mk F
  clear hf F
  have h9 := HP.out.nine
  have h16 := HP.out.legs
  by_cases hl0 : l0_1.length = 0
  · have d0 : ((l0_1.length : Int) == 0) = true := by rw [hl0]; rfl
    have H0 := Aside0.mk hl0
    clear hl0
    go_wp2_with (first | (go_at_call 21; refine (letterbaglaw33_awake.calls 10 true _ awake_f).mono ?_; rintro e w2 ⟨rfl, hb⟩; have N1 := Aside0.mk (N0.out.next hb); clear hb; obtain ⟨m0, m1, m2⟩ := N1.out.cells) | (go_at_call 22; refine (letterbaglaw33_fits.calls (10 + 0) A0_0 c0_0 l0_0 A0_1 c0_1 l0_1 a1 a2 a3 true _ (Kd.C_below HR0_0.out N1.out.below) hc0_0 (Kd.C_below HR0_1.out N1.out.below) hc0_1 HF.out).mono ?_; rintro e w3 ⟨rfl, hb⟩; have N2 := Aside0.mk (N1.out.next hb); clear hb; obtain ⟨o0, o1, o2⟩ := N2.out.cells))
    go_ret
    exact ⟨rfl, N2.out.below⟩
  have d0 : ((l0_1.length : Int) == 0) = false := by
    cases hb : ((l0_1.length : Int) == 0) with
    | false => rfl
    | true => exact absurd (by simpa using hb) hl0
  have ht0 := HP.out.t0
  have ht1 := HP.out.t1
  obtain ⟨pv, hpk, hp0, hp1⟩ := pick_at a4 (l0_1.length : Int) (by omega) (by omega)
  have HPK := Aside0.mk hpk
  clear hpk
  obtain ⟨j, hj⟩ : ∃ j : Nat, pv = (j : Int) := ⟨pv.toNat, by omega⟩
  have hjl : j < l0_1.length := by omega
  obtain ⟨M0, hM⟩ : ∃ M, M = l0_1.take j ++ l0_1.drop (j + 1) := ⟨_, rfl⟩
  obtain ⟨id, hid⟩ : ∃ i, i = (rd_T23 l0_1 pv).f0 := ⟨_, rfl⟩
  have LE : Aside0 (Less l0_0 l0_1 M0 j) := ⟨by rw [hM]; exact less_of HI.out HP.out.valid j hjl⟩
  have HWO : Aside0 (route_Without.f 30 l0_0 l0_1 id = some (l0_0, M0, 0)) := ⟨by rw [hid, hj, hM]; exact without_f HI.out HP.out.valid h16 j hjl 30 (by omega) h9⟩
  have HFA := Aside0.mk (without_facts (q := a2) HP.out.valid LE.out HP.out.inA ht0 ht1)
  have HML : Aside0 (M0.length ≤ 16) := ⟨by have := LE.out.len; omega⟩
  have HMJ : Aside0 (M0 = l0_1.take pv.toNat ++ l0_1.drop (pv + 1).toNat) := ⟨by rw [hM, hj]; rw [show ((j : Int) + 1).toNat = j + 1 by omega, Int.toNat_natCast]⟩
  obtain ⟨X, hX⟩ : ∃ X, X = (netOf l0_0 l0_1).arriveL a1 a3 := ⟨_, rfl⟩
  obtain ⟨Y, hY⟩ : ∃ X, X = (netOf l0_0 M0).arriveL a1 a3 := ⟨_, rfl⟩
  have HX : Aside0 (route_Arrive.f l0_0 l0_1 a1 a3 = some (X, 0)) := ⟨by rw [hX]; exact arrive_f HI.out HP.out.valid HP.out.inA ht0 ht1⟩
  have HY : Aside0 (route_Arrive.f l0_0 M0 a1 a3 = some (Y, 0)) := ⟨by rw [hY]; exact arrive_f LE.out.inp LE.out.valid HP.out.inA ht0 ht1⟩
  have LX : Aside0 (X.length = l0_0.length) := ⟨by rw [hX]; unfold Net.Nw.arriveL; simp [netOf]⟩
  have LY : Aside0 (Y.length = l0_0.length) := ⟨by rw [hY]; unfold Net.Nw.arriveL; simp [netOf]⟩
  have HXY : Aside0 (∀ x : Int, 0 ≤ x → x < l0_0.length → 0 ≤ rd Y x → 0 ≤ rd X x ∧ rd X x ≤ rd Y x) := ⟨by
    intro x h0 h1 h2
    obtain ⟨n, rfl⟩ : ∃ n : Nat, x = (n : Int) := ⟨x.toNat, by omega⟩
    rw [hX, hY, rd_row a1 a3 n (by omega)] at *
    rw [rd_row a1 a3 n (by omega)] at *
    exact HFA.out.1 _ h2⟩
  obtain ⟨W, hW⟩ : ∃ W, W = (wayV (netOf l0_0 l0_1) a1 a2 a3).1 := ⟨_, rfl⟩
  obtain ⟨we, hwe⟩ : ∃ e, e = (wayV (netOf l0_0 l0_1) a1 a2 a3).2 := ⟨_, rfl⟩
  obtain ⟨V, hV⟩ : ∃ W, W = (wayV (netOf l0_0 M0) a1 a2 a3).1 := ⟨_, rfl⟩
  obtain ⟨ve, hve⟩ : ∃ e, e = (wayV (netOf l0_0 M0) a1 a2 a3).2 := ⟨_, rfl⟩
  have HWW : Aside0 (route_Way.f l0_0 l0_1 a1 a2 a3 = some (W, we)) := ⟨by rw [way_f HI.out HP.out.valid HP.out.inA HP.out.inB ht0 ht1, hW, hwe]⟩
  have HWV : Aside0 (route_Way.f l0_0 M0 a1 a2 a3 = some (V, ve)) := ⟨by rw [way_f LE.out.inp LE.out.valid HP.out.inA HP.out.inB ht0 ht1, hV, hve]⟩
  have hW9 : W.length ≤ 9 := by
    rw [hW]
    have h1 := wayV_len (p := a1) (q := a2) (t := a3) HP.out.valid HP.out.inA
    have h2 : (netOf l0_0 l0_1).plants.length = l0_0.length := rfl
    omega
  have HSAME : Aside0 (hasV id W W.length = false → V = W ∧ ve = we) := ⟨fun h => by
    have h2 := HFA.out.2 (fun s hs e => by
      rw [← hW] at hs
      unfold hasV at h
      rw [Int.toNat_natCast, List.take_length] at h
      have h3 := List.any_eq_false.1 h s hs
      rw [← hj, ← hid] at e
      exact h3 (by simpa using e))
    rw [hW, hwe, hV, hve, h2]
    exact ⟨rfl, rfl⟩⟩
  have HID := Aside0.mk hid
  clear hX hY hW hwe hV hve hM hl0 hid hj hjl
  go_upto_region 6 with (first | (go_at_call 21; refine (letterbaglaw33_awake.calls 10 true _ awake_f).mono ?_; rintro e w2 ⟨rfl, hb⟩; have N1 := Aside0.mk (N0.out.next hb); clear hb; obtain ⟨m0, m1, m2⟩ := N1.out.cells) | (go_at_call 22; refine (letterbaglaw33_fits.calls (10 + 0) A0_0 c0_0 l0_0 A0_1 c0_1 l0_1 a1 a2 a3 true _ (Kd.C_below HR0_0.out N1.out.below) hc0_0 (Kd.C_below HR0_1.out N1.out.below) hc0_1 HF.out).mono ?_; rintro e w3 ⟨rfl, hb⟩; have N2 := Aside0.mk (N1.out.next hb); clear hb; obtain ⟨o0, o1, o2⟩ := N2.out.cells) | (go_at_call 26; refine (letterbagkit_Pick.calls a4 (l0_1.length : Int) pv _ HPK.out).mono ?_; rintro e w6 ⟨rfl, ⟨md, rfl⟩⟩; have N3 := Aside0.mk (N2.out.next (pw_below_drewN (Below.refl _ _) md))))
  obtain ⟨wr, hwr⟩ : ∃ wr, wr = w3.drewN md := ⟨_, rfl⟩
  rw [← hwr] at N3
  rw [← hwr]
  clear hwr o0 o1 o2 m0 m1 m2 N1 N2
  have NR' := N3
  obtain ⟨ad224, eA, g0, _⟩ := at_T23 (Kd.C_below HR0_1.out NR'.out.below) pv hp0 hp1
  subst eA
  rw [← HID.out] at g0
  have NR : Aside0 (NetW A0_0 c0_0 l0_0 (some ad224) c0_1 l0_1 w wr) := NR'
  obtain ⟨r0, r1, r2⟩ := NR.out.cells
  have gl := World.block_lt_of_cell? wr _ g0
  go_cut [12, 13] (fun v12 v13 wc => v13 = .int .i64 0 ∧ ∃ (gb232 : Nat) (Ao29 : Option Addr) (co29 : Nat) (Ao31 : Option Addr) (co31 : Nat), v12 = .pointer (some ⟨gb232, 0, none⟩) ∧ Aside0 (w.heap.size < gb232) ∧ Aside0 (Kd.R (Kd.int .i64) 3 wc w.heap.size (fun _ => True) (.slice Ao29 l0_0.length co29) l0_0) ∧ Aside0 (Kd.R k23 23 wc w.heap.size (fun _ => True) (.slice Ao31 M0.length co31) M0) ∧ Aside0 (wc.heap[w.heap.size]? = some (.cells #[.slice A0_0 l0_0.length c0_0, .slice (some ad224) l0_1.length c0_1] 29 (0, 0))) ∧ Aside0 (wc.heap[gb232]? = some (.cells #[.slice Ao29 l0_0.length co29, .slice Ao31 M0.length co31] 29 (0, 0))) ∧ Aside0 (Below w.heap.size w wc))
  case first =>
    go_region_held3 (fun W' => W'.cell? ⟨w.heap.size, 0, none⟩ = some (.slice A0_0 l0_0.length c0_0) ∧ W'.cell? ⟨w.heap.size, 1, none⟩ = some (.slice (some ad224) l0_1.length c0_1) ∧ W'.cell? (ad224.add (pv.toNat * 8)) = some (.int .i64 id)) (first | (with_reducible exact ⟨f0, f1, f3⟩) | (with_reducible exact ⟨r0, r1, g0⟩) | (with_reducible exact ⟨cell_alloc_at f0 _, cell_alloc_at f1 _, cell_alloc_at f3 _⟩) | (with_reducible exact ⟨cell_put2 f0 (Nat.ne_of_gt r2), cell_put2 f1 (Nat.ne_of_gt r2), cell_put2 f3 (Nat.ne_of_gt gl)⟩) | (with_reducible exact ⟨cell_drew_at r0, cell_drew_at r1, cell_drew_at g0⟩) | (with_reducible exact ⟨cell_alloc_at r0 _, cell_alloc_at r1 _, cell_alloc_at g0 _⟩) | (with_reducible exact ⟨cell_drew_at (cell_alloc_at r0 _), cell_drew_at (cell_alloc_at r1 _), cell_drew_at (cell_alloc_at g0 _)⟩) | (with_reducible exact ⟨cell_alloc_at (cell_drew_at r0) _, cell_alloc_at (cell_drew_at r1) _, cell_alloc_at (cell_drew_at g0) _⟩)) (first | (go_at_call 27; first | (refine (route_Without.calls 30 A0_0 c0_0 l0_0 (some ad224) c0_1 l0_1 id l0_0 M0 0 (wr.drew) (Kd.C_below HR0_0.out (below_then NR.out.below NR.out.below.size (pw_below_drewN (Below.refl wr.heap.size wr) 1))) hc0_0 (Kd.C_below HR0_1.out (below_then NR.out.below NR.out.below.size (pw_below_drewN (Below.refl wr.heap.size wr) 1))) hc0_1 HWO.out).mono ?_; rintro en w3 ⟨v0, v1, rfl, ho0, ho1, hb⟩; obtain ⟨Am, cm, e0⟩ := Kd.R_slice ho0; subst e0; obtain ⟨Bm, dm, e1⟩ := Kd.R_slice ho1; subst e1; have B9 := Aside0.mk (below_then (pw_below_drewN (Below.refl wr.heap.size wr) 1) (by first | exact Nat.le_refl _ | (simp; done)) hb); have N9 := Aside0.mk (NR.out.next B9.out); have R0 := Aside0.mk (Kd.R_lower ho0 (show w.heap.size ≤ _ from by first | exact NR.out.below.size | (have := NR.out.below.size; simp; omega))); have R1 := Aside0.mk (Kd.R_lower ho1 (show w.heap.size ≤ _ from by first | exact NR.out.below.size | (have := NR.out.below.size; simp; omega))); have f3 : w3.cell? (ad224.add (pv.toNat * 8)) = some (.int .i64 id) := (B9.out.cell gl).trans g0; have f4 := Nat.lt_of_lt_of_le gl B9.out.size; clear hb ho0 ho1; obtain ⟨f0, f1, f2⟩ := N9.out.cells) | (refine (route_Without.calls 30 A0_0 c0_0 l0_0 (some ad224) c0_1 l0_1 id l0_0 M0 0 ((wr.alloc (.cells #[.slice none 0 0, .slice none 0 0] 29)).drew) (Kd.C_below HR0_0.out (below_then NR.out.below NR.out.below.size (pw_below_drewN ((Below.refl wr.heap.size wr).alloc (Nat.le_refl _) (.cells #[.slice none 0 0, .slice none 0 0] 29)) 1))) hc0_0 (Kd.C_below HR0_1.out (below_then NR.out.below NR.out.below.size (pw_below_drewN ((Below.refl wr.heap.size wr).alloc (Nat.le_refl _) (.cells #[.slice none 0 0, .slice none 0 0] 29)) 1))) hc0_1 HWO.out).mono ?_; rintro en w3 ⟨v0, v1, rfl, ho0, ho1, hb⟩; obtain ⟨Am, cm, e0⟩ := Kd.R_slice ho0; subst e0; obtain ⟨Bm, dm, e1⟩ := Kd.R_slice ho1; subst e1; have B9 := Aside0.mk (below_then (pw_below_drewN ((Below.refl wr.heap.size wr).alloc (Nat.le_refl _) (.cells #[.slice none 0 0, .slice none 0 0] 29)) 1) (by first | exact Nat.le_refl _ | (simp; done)) hb); have hz := blk_below (blk_drew (blk_new wr (.cells #[.slice none 0 0, .slice none 0 0] 29))) hb; have HZ := Aside0.mk hz; have q0 : w3.cell? ⟨wr.heap.size, 0, none⟩ = some (.slice none 0 0) := (blk_cell hz 0).trans rfl; have q1 : w3.cell? ⟨wr.heap.size, 1, none⟩ = some (.slice none 0 0) := (blk_cell hz 1).trans rfl; have p0 := blk_frozen hz 0; have p1 := blk_frozen hz 1; clear hz; have N9 := Aside0.mk (NR.out.next B9.out); have R0 := Aside0.mk (Kd.R_lower ho0 (show w.heap.size ≤ _ from by first | exact NR.out.below.size | (have := NR.out.below.size; simp; omega))); have R1 := Aside0.mk (Kd.R_lower ho1 (show w.heap.size ≤ _ from by first | exact NR.out.below.size | (have := NR.out.below.size; simp; omega))); have f3 : w3.cell? (ad224.add (pv.toNat * 8)) = some (.int .i64 id) := (B9.out.cell gl).trans g0; have f4 := Nat.lt_of_lt_of_le gl B9.out.size; clear hb ho0 ho1; obtain ⟨f0, f1, f2⟩ := N9.out.cells)))
    all_goals (go_wp2; go_meet)
    case rel => exact ⟨rfl, w3.heap.size, Am, cm, Bm, dm, rfl, ⟨f2⟩, ⟨Kd.R_alloc R0.out _⟩, ⟨Kd.R_alloc R1.out _⟩, ⟨blk_alloc N9.out.blk _⟩, ⟨blk_new w3 _⟩, ⟨N9.out.below.alloc N9.out.below.size _⟩⟩
    case rel =>
      exact ⟨rfl, wr.heap.size, Am, cm, Bm, dm, rfl, ⟨r2⟩,
        ⟨Kd.R_mono (Kd.R_far (p := ⟨wr.heap.size, 1, none⟩) (Kd.R_far (p := ⟨wr.heap.size, 0, none⟩) (Kd.R_types R0.out HZ.out (by decide)) (fun _ hk => hk.2) (.slice Am l0_0.length cm)) (fun _ hk => hk.2) (.slice Bm M0.length dm)) (fun _ hk => trivial)⟩,
        ⟨Kd.R_mono (Kd.R_far (p := ⟨wr.heap.size, 1, none⟩) (Kd.R_far (p := ⟨wr.heap.size, 0, none⟩) (Kd.R_types R1.out HZ.out (by decide)) (fun _ hk => hk.2) (.slice Am l0_0.length cm)) (fun _ hk => hk.2) (.slice Bm M0.length dm)) (fun _ hk => trivial)⟩,
        ⟨blk_far (blk_far N9.out.blk (Nat.ne_of_lt r2) _) (Nat.ne_of_lt r2) _⟩,
        ⟨blk_put (cs := #[.slice Am l0_0.length cm, .slice none 0 0]) (blk_put (cs := #[.slice none 0 0, .slice none 0 0]) HZ.out 0 _ rfl) 1 _ rfl⟩,
        ⟨below_set (below_set N9.out.below (Nat.le_of_lt r2)) (Nat.le_of_lt r2)⟩⟩
  case rest =>
  obtain ⟨rfl, gb232, Ao29, co29, Ao31, co31, rfl, GE, HO227, HO230, BK220, BK232, HB⟩ := hcut
  have GE232 : Aside0 (w.heap.size ≤ gb232) := ⟨Nat.le_of_lt GE.out⟩
  clear NR NR' N3 r0 r1 r2 g0 gl
  go_upto_region 7 with fail
  go_cut [82] (fun v82 wd => v82 = .bool false ∧ Aside0 (Kd.R (Kd.int .i64) 3 wd w.heap.size (fun _ => True) (.slice Ao29 l0_0.length co29) l0_0) ∧ Aside0 (Kd.R k23 23 wd w.heap.size (fun _ => True) (.slice Ao31 M0.length co31) M0) ∧ Aside0 (wd.heap[w.heap.size]? = some (.cells #[.slice A0_0 l0_0.length c0_0, .slice (some ad224) l0_1.length c0_1] 29 (0, 0))) ∧ Aside0 (wd.heap[gb232]? = some (.cells #[.slice Ao29 l0_0.length co29, .slice Ao31 M0.length co31] 29 (0, 0))) ∧ Aside0 (Below w.heap.size w wd))
  case first =>
    obtain ⟨kj7, hkj⟩ : ∃ n : Nat, n = 300 := ⟨_, rfl⟩
    have A34 : Aside0 (letterbagkit_SameInts.f kj7 l0_0 l0_0 = some true) := ⟨by rw [hkj]; exact same_ints l0_0 (by omega)⟩
    have A43' : Aside0 (letterbagkit_SameLegs.f kj7 M0 M0 = some true) := ⟨by rw [hkj]; exact same_legs M0 (by have := HML.out; omega)⟩
    clear hkj
    obtain ⟨ji39, hji39⟩ : ∃ j_ : Int, (wrap64 (pv + 1)) = j_ := ⟨_, rfl⟩
    have hji : ji39 = pv + 1 := by rw [← hji39]; exact w64 (by omega) (by omega)
    have hji39w : (IntKind.i64.wrap (pv + 1)) = ji39 := (i64_w _).trans hji39
    have c20b0 : decide (0 ≤ pv) = true := decide_eq_true hp0
    have c37b1 : decide (pv ≤ (l0_1.length : Int)) = true := decide_eq_true (by omega)
    have c40b1 : decide (0 ≤ (ji39)) = true := decide_eq_true (by omega)
    have c41b1 : decide ((ji39) ≤ (l0_1.length : Int)) = true := decide_eq_true (by omega)
    have hpc : pv ≤ (c0_1 : Int) := by omega
    have c36b0 := eq_true (of_decide_eq_true c20b0)
    have c37b0 := eq_true (of_decide_eq_true c37b1)
    have c40b0 := eq_true (of_decide_eq_true c40b1)
    have c41b0 := eq_true (of_decide_eq_true c41b1)
    obtain ⟨y234, hy234⟩ : ∃ y_ : List (S23), y_ = ([] : List (S23)) := ⟨_, rfl⟩
    obtain ⟨y237, hy237⟩ : ∃ y_ : List (S23), y_ = (l0_1.take (pv : Int).toNat) := ⟨_, rfl⟩
    obtain ⟨y241, hy241⟩ : ∃ y_ : List (S23), y_ = (y234 ++ y237) := ⟨_, rfl⟩
    obtain ⟨y244, A50, c50, hy244, hcut50, hr50, hc50⟩ := leg_rest HR0_1.out hc0_1 (show 0 ≤ ji39 by omega) (show ji39 ≤ (l0_1.length : Int) by omega)
    have HR247 := Aside0.mk hr50
    clear hr50 hc50
    obtain ⟨y248, hy248⟩ : ∃ y_ : List (S23), y_ = (y241 ++ y244) := ⟨_, rfl⟩
    have A43 : Aside0 (letterbagkit_SameLegs.f kj7 M0 y248 = some true) := ⟨by
      have e : y248 = M0 := by rw [hy248, hy241, hy234, hy237, hy244, hji, List.nil_append, HMJ.out]
      rw [e]; exact A43'.out⟩
    have LMc38 : Aside0 (y234.length + y237.length < 2199023255552) := ⟨by rw [hy234, hy237, List.length_take]; simp; omega⟩
    have LMc42 : Aside0 (y241.length + y244.length < 2199023255552) := ⟨by rw [hy241, hy234, hy237, hy244]; simp; omega⟩
    have Ny234 := Aside0.mk hy234
    have Ny237 := Aside0.mk hy237
    have Ny241 := Aside0.mk hy241
    have Ny244 := Aside0.mk hy244
    have Ny248 := Aside0.mk hy248
    clear hy234 hy237 hy241 hy244 hy248 hji hji39 A43'
    have n0_ := Aside0.mk (Kd.R_drew HO227.out)
    have n1_ := Aside0.mk (Kd.R_drew HO230.out)
    have n2_ := Aside0.mk (blk_drew BK220.out)
    have n3_ := Aside0.mk (blk_drew BK232.out)
    have n4_ := Aside0.mk (below_drew1 HB.out)
    clear HO227
    clear HO230
    clear BK220
    clear BK232
    clear HB
    have HO227 := n0_
    have HO230 := n1_
    have BK220 := n2_
    have BK232 := n3_
    have HB := n4_
    clear n0_ n1_ n2_ n3_ n4_
    refine start_ (n := 28) (S := fun w' => w'.cell? ⟨gb232, 0, none⟩ = some (.slice Ao29 l0_0.length co29) ∧ w'.cell? ⟨gb232, 1, none⟩ = some (.slice Ao31 M0.length co31) ∧ w'.cell? ⟨w.heap.size, 0, none⟩ = some (.slice A0_0 l0_0.length c0_0) ∧ w'.cell? ⟨w.heap.size, 1, none⟩ = some (.slice (some ad224) l0_1.length c0_1)) (ds := []) #[false, false, false, false, false, false, false, false, false, false, false, false, false, false, false, false, false, false, false, false, false, false, false, false, false, false, false, false] (by kernel_rfl) rfl rfl ⟨(blk_cell BK232.out 0).trans rfl, (blk_cell BK232.out 1).trans rfl, (blk_cell BK220.out 0).trans rfl, (blk_cell BK220.out 1).trans rfl⟩ (fun hHeld => ?_); refine with_tabW RouteWithout.tab7 RouteWithout.bits7 (fun HT_ HW_ => ?_)
    generalize wc.drew = w45 at HO227 HO230 BK220 BK232 HB hHeld ⊢
    refine pure_ (i := 0) (N := some 55) (v := ?_) (a' := ?_) #[true, false, false, false, false, false, false, false, false, false, false, false, false, false, false, false, false, false, false, false, false, false, false, false, false, false, false, false] rfl rfl (any_of HT_.out (by kernel_rfl)) (fun _ _ _ h => h) (Or.inl ⟨by rfl, ?_⟩) ?_ ?_
    rotate_left
    · intro w'
      go_simp
      with_reducible rfl
    rotate_left
    · simp only [Act.put, List.setIfInBounds_toArray, List.set_cons_zero, List.set_cons_succ, i64_w, i32_w]
      rfl
    refine pure_ (i := 1) (N := some 56) (v := ?_) (a' := ?_) #[true, true, false, false, false, false, false, false, false, false, false, false, false, false, false, false, false, false, false, false, false, false, false, false, false, false, false, false] rfl rfl (any_of HT_.out (by kernel_rfl)) (fun _ _ _ h => h) (Or.inl ⟨by rfl, ?_⟩) ?_ ?_
    rotate_left
    · intro w'
      go_simp
      with_reducible rfl
    rotate_left
    · simp only [Act.put, List.setIfInBounds_toArray, List.set_cons_zero, List.set_cons_succ, i64_w, i32_w]
      rfl
    refine pure_ (i := 2) (N := some 57) (v := ?_) (a' := ?_) #[true, true, true, false, false, false, false, false, false, false, false, false, false, false, false, false, false, false, false, false, false, false, false, false, false, false, false, false] rfl rfl (any_of HT_.out (by kernel_rfl)) (fun _ _ _ h => h) (Or.inl ⟨by rfl, ?_⟩) ?_ ?_
    rotate_left
    · intro w'
      go_simp
      with_reducible rfl
    rotate_left
    · simp only [Act.put, List.setIfInBounds_toArray, List.set_cons_zero, List.set_cons_succ, i64_w, i32_w]
      rfl
    refine pure_ (i := 3) (N := some 58) (v := ?_) (a' := ?_) #[true, true, true, true, false, false, false, false, false, false, false, false, false, false, false, false, false, false, false, false, false, false, false, false, false, false, false, false] rfl rfl (any_of HT_.out (by kernel_rfl)) (fun _ _ _ h => h) (Or.inl ⟨by rfl, ?_⟩) ?_ ?_
    rotate_left
    · intro w'
      go_simp
      with_reducible rfl
    rotate_left
    · simp only [Act.put, List.setIfInBounds_toArray, List.set_cons_zero, List.set_cons_succ, i64_w, i32_w]
      rfl
    refine pure_ (i := 5) (N := some 60) (v := ?_) (a' := ?_) #[true, true, true, true, false, true, false, false, false, false, false, false, false, false, false, false, false, false, false, false, false, false, false, false, false, false, false, false] rfl rfl (any_of HT_.out (by kernel_rfl)) (fun _ _ _ h => h) (Or.inl ⟨by rfl, ?_⟩) ?_ ?_
    rotate_left
    · intro w'
      go_simp
      with_reducible rfl
    rotate_left
    · simp only [Act.put, List.setIfInBounds_toArray, List.set_cons_zero, List.set_cons_succ, i64_w, i32_w]
      rfl
    refine take_ (i := 4) (N := some 59) (v := ?_) (a' := ?_) #[true, true, true, true, true, true, false, false, false, false, false, false, false, false, false, false, false, false, false, false, false, false, false, false, false, false, false, false] rfl rfl (take_ofW HT_.out HW_.out (by kernel_rfl)) (fun _ _ _ h => h) (Or.inl ⟨by rfl, ?_⟩) hHeld ?_ ?_
    rotate_left
    · rintro w' ⟨s0, s1, s2, s3⟩
      go_simp
      with_reducible rfl
    rotate_left
    · simp only [Act.put, List.setIfInBounds_toArray, List.set_cons_zero, List.set_cons_succ, i64_w, i32_w]
      rfl
    refine take_ (i := 6) (N := some 61) (v := ?_) (a' := ?_) #[true, true, true, true, true, true, true, false, false, false, false, false, false, false, false, false, false, false, false, false, false, false, false, false, false, false, false, false] rfl rfl (take_ofW HT_.out HW_.out (by kernel_rfl)) (fun _ _ _ h => h) (Or.inl ⟨by rfl, ?_⟩) hHeld ?_ ?_
    rotate_left
    · rintro w' ⟨s0, s1, s2, s3⟩
      go_simp
      with_reducible rfl
    rotate_left
    · simp only [Act.put, List.setIfInBounds_toArray, List.set_cons_zero, List.set_cons_succ, i64_w, i32_w]
      rfl
    refine one_ (i := 7) (N := some 62) #[true, true, true, true, true, true, true, true, false, false, false, false, false, false, false, false, false, false, false, false, false, false, false, false, false, false, false, false] rfl rfl (one_of HT_.out (by kernel_rfl)) (by decide) (fun K hK => ?_)
    refine goes_ Try.func28 (by kernel_rfl) rfl #[.slice Ao29 l0_0.length co29, .slice A0_0 l0_0.length c0_0] (by rfl) rfl rfl (by (try simp only [List.map_toArray, List.map_cons, List.map_nil]); first | done | rfl | (simp only [List.length_drop, List.length_take]; rfl)) ?_
    with_reducible refine (letterbagkit_SameInts.calls kj7 _ _ l0_0 _ _ l0_0 true _ ?side1 ?side2 ?side3 ?side4 A34.out).mono ?_
    (case side1 => repeat (first | exact (Kd.R_reads' HO227.out).2.2 | (with_reducible refine Kd.C_alloc ?_ _) | (with_reducible refine Kd.C_drewN ?_ _) | (with_reducible refine Kd.C_drew ?_)))
    (case side2 => exact (Kd.R_reads' HO227.out).2.1)
    (case side3 => repeat (first | exact (Kd.C_below HR0_0.out HB.out) | (with_reducible refine Kd.C_alloc ?_ _) | (with_reducible refine Kd.C_drewN ?_ _) | (with_reducible refine Kd.C_drew ?_)))
    (case side4 => exact HC0_0.out)
    rintro e w' ⟨rfl, ⟨nd, rfl⟩⟩
    refine ⟨_, rfl, ?_⟩
    refine hK.out _ _ ⟨(blk_cell BK232.out 0).trans rfl, (blk_cell BK232.out 1).trans rfl, (blk_cell BK220.out 0).trans rfl, (blk_cell BK220.out 1).trans rfl⟩ (fun hHeld => ?_)
    clear hK K
    refine norm_ (a' := ?_) ?_ ?_
    rotate_left
    · show Act.put _ (some 62) _ = _
      simp only [Act.put, List.setIfInBounds_toArray, List.set_cons_zero, List.set_cons_succ, i64_w, i32_w]
      rfl
    refine pure_ (i := 8) (N := some 63) (v := ?_) (a' := ?_) #[true, true, true, true, true, true, true, true, true, false, false, false, false, false, false, false, false, false, false, false, false, false, false, false, false, false, false, false] rfl rfl (any_of HT_.out (by kernel_rfl)) (fun _ _ _ h => h) (Or.inl ⟨by rfl, ?_⟩) ?_ ?_
    rotate_left
    · intro w'
      go_simp
      with_reducible rfl
    rotate_left
    · simp only [Act.put, List.setIfInBounds_toArray, List.set_cons_zero, List.set_cons_succ, i64_w, i32_w]
      rfl
    refine pure_ (i := 9) (N := some 64) (v := ?_) (a' := ?_) #[true, true, true, true, true, true, true, true, true, true, false, false, false, false, false, false, false, false, false, false, false, false, false, false, false, false, false, false] rfl rfl (any_of HT_.out (by kernel_rfl)) (fun _ _ _ h => h) (Or.inl ⟨by rfl, ?_⟩) ?_ ?_
    rotate_left
    · intro w'
      go_simp
      with_reducible rfl
    rotate_left
    · simp only [Act.put, List.setIfInBounds_toArray, List.set_cons_zero, List.set_cons_succ, i64_w, i32_w]
      rfl
    refine pure_ (i := 10) (N := some 65) (v := ?_) (a' := ?_) #[true, true, true, true, true, true, true, true, true, true, true, false, false, false, false, false, false, false, false, false, false, false, false, false, false, false, false, false] rfl rfl (any_of HT_.out (by kernel_rfl)) (fun _ _ _ h => h) (Or.inl ⟨by rfl, ?_⟩) ?_ ?_
    rotate_left
    · intro w'
      go_simp
      with_reducible rfl
    rotate_left
    · simp only [Act.put, List.setIfInBounds_toArray, List.set_cons_zero, List.set_cons_succ, i64_w, i32_w]
      rfl
    refine pure_ (i := 11) (N := some 66) (v := ?_) (a' := ?_) #[true, true, true, true, true, true, true, true, true, true, true, true, false, false, false, false, false, false, false, false, false, false, false, false, false, false, false, false] rfl rfl (any_of HT_.out (by kernel_rfl)) (fun _ _ _ h => h) (Or.inl ⟨by rfl, ?_⟩) ?_ ?_
    rotate_left
    · intro w'
      go_simp
      with_reducible rfl
    rotate_left
    · simp only [Act.put, List.setIfInBounds_toArray, List.set_cons_zero, List.set_cons_succ, i64_w, i32_w]
      rfl
    refine pure_ (i := 14) (N := some 69) (v := ?_) (a' := ?_) #[true, true, true, true, true, true, true, true, true, true, true, true, false, false, true, false, false, false, false, false, false, false, false, false, false, false, false, false] rfl rfl (any_of HT_.out (by kernel_rfl)) (fun _ _ _ h => h) (Or.inl ⟨by rfl, ?_⟩) ?_ ?_
    rotate_left
    · intro w'
      go_simp
      with_reducible rfl
    rotate_left
    · simp only [Act.put, List.setIfInBounds_toArray, List.set_cons_zero, List.set_cons_succ, i64_w, i32_w]
      rfl
    refine pure_ (i := 16) (N := some 71) (v := ?_) (a' := ?_) #[true, true, true, true, true, true, true, true, true, true, true, true, false, false, true, false, true, false, false, false, false, false, false, false, false, false, false, false] rfl rfl (any_of HT_.out (by kernel_rfl)) (fun _ _ _ h => h) (Or.inl ⟨by rfl, ?_⟩) ?_ ?_
    rotate_left
    · intro w'
      go_simp
      with_reducible rfl
    rotate_left
    · simp only [Act.put, List.setIfInBounds_toArray, List.set_cons_zero, List.set_cons_succ, i64_w, i32_w]
      rfl
    refine pure_ (i := 19) (N := some 74) (v := ?_) (a' := ?_) #[true, true, true, true, true, true, true, true, true, true, true, true, false, false, true, false, true, false, false, true, false, false, false, false, false, false, false, false] rfl rfl (any_of HT_.out (by kernel_rfl)) (fun _ _ _ h => h) (Or.inl ⟨by rfl, ?_⟩) ?_ ?_
    rotate_left
    · intro w'
      go_simp
      with_reducible rfl
    rotate_left
    · simp only [Act.put, List.setIfInBounds_toArray, List.set_cons_zero, List.set_cons_succ, i64_w, i32_w]
      rfl
    refine pure_ (i := 21) (N := some 76) (v := ?_) (a' := ?_) #[true, true, true, true, true, true, true, true, true, true, true, true, false, false, true, false, true, false, false, true, false, true, false, false, false, false, false, false] rfl rfl (any_of HT_.out (by kernel_rfl)) (fun _ _ _ h => h) (Or.inl ⟨by rfl, ?_⟩) ?_ ?_
    rotate_left
    · intro w'
      go_simp
      with_reducible rfl
    rotate_left
    · simp only [Act.put, List.setIfInBounds_toArray, List.set_cons_zero, List.set_cons_succ, i64_w, i32_w]
      rfl
    refine pure_ (i := 22) (N := some 77) (v := ?_) (a' := ?_) #[true, true, true, true, true, true, true, true, true, true, true, true, false, false, true, false, true, false, false, true, false, true, true, false, false, false, false, false] rfl rfl (any_of HT_.out (by kernel_rfl)) (fun _ _ _ h => h) (Or.inl ⟨by rfl, ?_⟩) ?_ ?_
    rotate_left
    · intro w'
      go_simp
      with_reducible rfl
    rotate_left
    · simp only [Act.put, List.setIfInBounds_toArray, List.set_cons_zero, List.set_cons_succ, i64_w, i32_w]
      rfl
    refine take_ (i := 12) (N := some 67) (v := ?_) (a' := ?_) #[true, true, true, true, true, true, true, true, true, true, true, true, true, false, true, false, true, false, false, true, false, true, true, false, false, false, false, false] rfl rfl (take_ofW HT_.out HW_.out (by kernel_rfl)) (fun _ _ _ h => h) (Or.inl ⟨by rfl, ?_⟩) hHeld ?_ ?_
    rotate_left
    · rintro w' ⟨s0, s1, s2, s3⟩
      go_simp
      with_reducible rfl
    rotate_left
    · simp only [Act.put, List.setIfInBounds_toArray, List.set_cons_zero, List.set_cons_succ, i64_w, i32_w]
      rfl
    refine take_ (i := 15) (N := some 70) (v := ?_) (a' := ?_) #[true, true, true, true, true, true, true, true, true, true, true, true, true, false, true, true, true, false, false, true, false, true, true, false, false, false, false, false] rfl rfl (take_ofW HT_.out HW_.out (by kernel_rfl)) (fun _ _ _ h => h) (Or.inl ⟨by rfl, ?_⟩) hHeld ?_ ?_
    rotate_left
    · rintro w' ⟨s0, s1, s2, s3⟩
      go_simp
      with_reducible rfl
    rotate_left
    · simp only [Act.put, List.setIfInBounds_toArray, List.set_cons_zero, List.set_cons_succ, i64_w, i32_w]
      rfl
    refine pure_ (i := 17) (N := some 72) (v := ?_) (a' := ?_) #[true, true, true, true, true, true, true, true, true, true, true, true, true, false, true, true, true, true, false, true, false, true, true, false, false, false, false, false] rfl rfl (any_of HT_.out (by kernel_rfl)) (fun _ _ _ h => h) (Or.inl ⟨by rfl, ?_⟩) ?_ ?_
    rotate_left
    · intro w'
      go_simp
      with_reducible rfl
    rotate_left
    · simp only [Act.put, List.setIfInBounds_toArray, List.set_cons_zero, List.set_cons_succ, i64_w, i32_w]
      rfl
    refine take_ (i := 20) (N := some 75) (v := ?_) (a' := ?_) #[true, true, true, true, true, true, true, true, true, true, true, true, true, false, true, true, true, true, false, true, true, true, true, false, false, false, false, false] rfl rfl (take_ofW HT_.out HW_.out (by kernel_rfl)) (fun _ _ _ h => h) (Or.inl ⟨by rfl, ?_⟩) hHeld ?_ ?_
    rotate_left
    · rintro w' ⟨s0, s1, s2, s3⟩
      go_simp
      with_reducible rfl
    rotate_left
    · simp only [Act.put, List.setIfInBounds_toArray, List.set_cons_zero, List.set_cons_succ, i64_w, i32_w]
      rfl
    refine pure_ (i := 23) (N := some 78) (v := ?_) (a' := ?_) #[true, true, true, true, true, true, true, true, true, true, true, true, true, false, true, true, true, true, false, true, true, true, true, true, false, false, false, false] rfl rfl (any_of HT_.out (by kernel_rfl)) (fun _ _ _ h => h) (Or.inl ⟨by rfl, ?_⟩) ?_ ?_
    rotate_left
    · intro w'
      go_simp
      with_reducible rfl
    rotate_left
    · simp only [Act.put, List.setIfInBounds_toArray, List.set_cons_zero, List.set_cons_succ, i64_w, i32_w]
      rfl
    refine one_ (i := 13) (N := some 68) #[true, true, true, true, true, true, true, true, true, true, true, true, true, true, true, true, true, true, false, true, true, true, true, true, false, false, false, false] rfl rfl (one_of HT_.out (by kernel_rfl)) (by decide) (fun K hK => ?_)
    refine Kd.R_lit_step k23 _ 23 ?hg (N := 68) ?hd (xs := ([] : List (S23))) (inner := []) (ok := fun _ => True) (okp := fun _ => True) ?hr ?hp (fun _ hk => hk) trivial (Below.refl _ _) (Nat.le_refl _) (by simp) ?_; (case hd => rfl); (case hg => rfl); (case hr => first | (go_simp; done) | (go_simp; rfl)); (case hp => exact (Reps.none _ _))
    intro v235 w46 ho47 hb hg_ hnew_
    clear hg_ hnew_
    (first | rw [← Ny234.out] at ho47 | (simp only [Int.reduceToNat] at ho47; rw [← Ny234.out] at ho47))
    have n0_ := Aside0.mk (Kd.R_below (by (with_reducible repeat (first | apply Kd.R_alloc | apply Kd.R_drewN | apply Kd.R_drew)); exact HO227.out) hb)
    have n1_ := Aside0.mk (Kd.R_elder' (by (with_reducible repeat (first | apply Kd.R_alloc | apply Kd.R_drewN | apply Kd.R_drew)); exact HO230.out) (Kd.R_base ho47) hb)
    have n2_ := Aside0.mk (Kd.R_lower (Kd.R_new' ho47 (Kd.R_lt (by (with_reducible repeat (first | apply Kd.R_alloc | apply Kd.R_drewN | apply Kd.R_drew)); exact HO230.out))) (below_size (by repeat (first | (with_reducible first | exact HB.out | apply below_alloc | apply pw_below_drewN | apply below_drew1 | refine below_set ?_ (Nat.le_refl _) | refine below_set ?_ GE232.out) | exact HB.out))))
    have n3_ := Aside0.mk (blk_below (g := w.heap.size) (o := .cells #[.slice A0_0 l0_0.length c0_0, .slice (some ad224) l0_1.length c0_1] 29 (0, 0)) (by (with_reducible repeat (first | refine blk_drewN ?_ _ | refine blk_drew ?_ | refine blk_alloc ?_ _)); exact BK220.out) hb)
    have n4_ := Aside0.mk (blk_below (g := gb232) (o := .cells #[.slice Ao29 l0_0.length co29, .slice Ao31 M0.length co31] 29 (0, 0)) (by (with_reducible repeat (first | refine blk_drewN ?_ _ | refine blk_drew ?_ | refine blk_alloc ?_ _)); exact BK232.out) hb)
    have n5_ := Aside0.mk (below_step (by repeat (first | (with_reducible first | exact HB.out | apply below_alloc | apply pw_below_drewN | apply below_drew1 | refine below_set ?_ (Nat.le_refl _) | refine below_set ?_ GE232.out) | exact HB.out)) hb)
    clear HO227
    clear HO230
    clear BK220
    clear BK232
    clear HB
    have HO227 := n0_
    have HO230 := n1_
    have HO236 := n2_
    have BK220 := n3_
    have BK232 := n4_
    have HB := n5_
    clear n0_ n1_ n2_ n3_ n4_ n5_
    clear hb ho47
    have q48 : (pv : Int) ≤ ((l0_1.length : Int) : Int) := of_decide_eq_true (by first | (with_reducible assumption) | assumption)
    obtain ⟨i048, hi048, _, hsz48, _⟩ := info_parts info23
    have hroom48 : l0_1.length ≤ c0_1 := HC0_1.out
    have hC48 : Kd.C k23 _ (some ad224) l0_1.length l0_1 := HR0_1.out
    have hcut48 := cutTo (P := Try.prog) 25 23 .i64 Try.underlying25 hi048 (some ad224) l0_1.length c0_1 pv (of_decide_eq_true (by first | (with_reducible assumption) | assumption)) q48 hroom48
    have hr48 := C_takeK (m := (pv : Int).toNat) hC48 (by omega)
    have hy48 : y237.length = (pv : Int).toNat := (by rw [Ny237.out, List.length_take]; omega)
    rw [← Ny237.out] at hr48
    rw [hy48] at hr48; clear hcut48
    have HR240 := Aside0.mk hr48
    clear hr48 hC48 hroom48 hi048 hsz48
    have KY48 := Aside0.mk hy48
    clear hy48
    replace q48 := eq_true q48
    refine hK.out _ _ ⟨(blk_cell BK232.out 0).trans rfl, (blk_cell BK232.out 1).trans rfl, (blk_cell BK220.out 0).trans rfl, (blk_cell BK220.out 1).trans rfl⟩ (fun hHeld => ?_)
    clear hK K
    refine norm_ (a' := ?_) ?_ ?_
    rotate_left
    · show Act.put _ (some 68) _ = _
      simp only [Act.put, List.setIfInBounds_toArray, List.set_cons_zero, List.set_cons_succ, i64_w, i32_w]
      rfl
    refine one_ (i := 18) (N := some 73) #[true, true, true, true, true, true, true, true, true, true, true, true, true, true, true, true, true, true, true, true, true, true, true, true, false, false, false, false] rfl rfl (one_of HT_.out (by kernel_rfl)) (by decide) (fun K hK => ?_)
    refine Kd.R_append_rows_step k23 (w0 := w) w.heap.size (by rfl) (.tmp 68) (.tmp 72) 25 23 (.agg #[(.int .i64 0), (.int .i64 0), (.int .i64 0), (.int .i64 0), (.int .i64 0), (.int .i64 0), (.int .i64 0), (.int .u8 0)]) 64 rfl Try.underlying25 info23 rfl (by decide) (by omega) v235 y234 y237 _ _ _ (fun k_ => some k_ ≠ (.slice Ao31 M0.length co31 : Value).ownBlock) (fun _ => False) rfl rfl ?aO ?aR (fun _ _ h => h) (fun _ h => h.elim) ?aF ?aB ?aS ?aL ?_
    (case aR => repeat (first | exact (Kd.C_below HR240.out HB.out) | (with_reducible refine Kd.C_alloc ?_ _) | (with_reducible refine Kd.C_drewN ?_ _) | (with_reducible refine Kd.C_drew ?_)))
    (case aB => exact (by repeat (first | (with_reducible first | exact HB.out | apply below_alloc | apply pw_below_drewN | apply below_drew1 | refine below_set ?_ (Nat.le_refl _) | refine below_set ?_ GE232.out) | exact HB.out)))
    (case aF => exact (fun k_ hk => Kd.fresh' (Kd.R_lt (by (with_reducible repeat (first | apply Kd.R_alloc | apply Kd.R_drewN | apply Kd.R_drew)); exact HO230.out)) k_ hk))
    (case aO => exact (by (with_reducible repeat (first | apply Kd.R_alloc | apply Kd.R_drewN | apply Kd.R_drew)); exact Kd.R_mono HO236.out (fun _ hk => hk.2)))
    (case aS => exact (below_size (by repeat (first | (with_reducible first | exact HB.out | apply below_alloc | apply pw_below_drewN | apply below_drew1 | refine below_set ?_ (Nat.le_refl _) | refine below_set ?_ GE232.out) | exact HB.out))))
    (case aL => have := LMc38.out; have := KY48.out; omega)
    intro v242 w49 ho hb hg hat
    rw [← Ny241.out] at ho
    have n0_ := Aside0.mk (blk_grown (g := w.heap.size) (o := .cells #[.slice A0_0 l0_0.length c0_0, .slice (some ad224) l0_1.length c0_1] 29 (0, 0)) (by (with_reducible repeat (first | refine blk_drewN ?_ _ | refine blk_drew ?_ | refine blk_alloc ?_ _)); exact BK220.out) hg (Kd.R_ne HO236.out BK220.out (by decide)))
    have n1_ := Aside0.mk (Kd.R_over' (by (with_reducible repeat (first | apply Kd.R_alloc | apply Kd.R_drewN | apply Kd.R_drew)); exact HO227.out) (Kd.R_typed (by (with_reducible repeat (first | apply Kd.R_alloc | apply Kd.R_drewN | apply Kd.R_drew)); exact HO236.out)) (by decide) hg)
    have n2_ := Aside0.mk (Kd.R_after (ok := (fun _ => True)) (by (with_reducible repeat (first | apply Kd.R_alloc | apply Kd.R_drewN | apply Kd.R_drew)); exact HO230.out) hg hat)
    have n3_ := Aside0.mk (blk_grown (g := gb232) (o := .cells #[.slice Ao29 l0_0.length co29, .slice Ao31 M0.length co31] 29 (0, 0)) (by (with_reducible repeat (first | refine blk_drewN ?_ _ | refine blk_drew ?_ | refine blk_alloc ?_ _)); exact BK232.out) hg (Kd.R_ne HO236.out BK232.out (by decide)))
    have n4_ := Aside0.mk (hb)
    have n5_ := Aside0.mk (ho)
    clear BK220
    clear HO227
    clear HO230
    clear BK232
    clear HB
    clear HO236
    have BK220 := n0_
    have HO227 := n1_
    have HO230 := n2_
    have BK232 := n3_
    have HB := n4_
    have HO243 := n5_
    clear n0_ n1_ n2_ n3_ n4_ n5_
    clear ho hb hg hat
    refine hK.out _ _ ⟨(blk_cell BK232.out 0).trans rfl, (blk_cell BK232.out 1).trans rfl, (blk_cell BK220.out 0).trans rfl, (blk_cell BK220.out 1).trans rfl⟩ (fun hHeld => ?_)
    clear hK K
    refine norm_ (a' := ?_) ?_ ?_
    rotate_left
    · show Act.put _ (some 73) _ = _
      simp only [Act.put, List.setIfInBounds_toArray, List.set_cons_zero, List.set_cons_succ, i64_w, i32_w]
      rfl
    refine one_ (i := 24) (N := some 79) #[true, true, true, true, true, true, true, true, true, true, true, true, true, true, true, true, true, true, true, true, true, true, true, true, true, false, false, false] rfl rfl (one_of HT_.out (by kernel_rfl)) (by decide) (fun K hK => ?_)
    refine Kd.R_append_rows_step k23 (w0 := w) w.heap.size (by rfl) (.tmp 73) (.tmp 78) 25 23 (.agg #[(.int .i64 0), (.int .i64 0), (.int .i64 0), (.int .i64 0), (.int .i64 0), (.int .i64 0), (.int .i64 0), (.int .u8 0)]) 64 rfl Try.underlying25 info23 rfl (by decide) (by omega) v242 y241 y244 _ _ _ (fun k_ => some k_ ≠ (.slice Ao31 M0.length co31 : Value).ownBlock) (fun _ => False) rfl rfl ?aO ?aR (fun _ _ h => h) (fun _ h => h.elim) ?aF ?aB ?aS ?aL ?_
    (case aR => repeat (first | exact (Kd.C_below HR247.out HB.out) | (with_reducible refine Kd.C_alloc ?_ _) | (with_reducible refine Kd.C_drewN ?_ _) | (with_reducible refine Kd.C_drew ?_)))
    (case aB => exact (by repeat (first | (with_reducible first | exact HB.out | apply below_alloc | apply pw_below_drewN | apply below_drew1 | refine below_set ?_ (Nat.le_refl _) | refine below_set ?_ GE232.out) | exact HB.out)))
    (case aF => exact (fun k_ hk => Kd.fresh' (Kd.R_lt (by (with_reducible repeat (first | apply Kd.R_alloc | apply Kd.R_drewN | apply Kd.R_drew)); exact HO230.out)) k_ hk))
    (case aO => exact (by (with_reducible repeat (first | apply Kd.R_alloc | apply Kd.R_drewN | apply Kd.R_drew)); exact HO243.out))
    (case aS => exact (below_size (by repeat (first | (with_reducible first | exact HB.out | apply below_alloc | apply pw_below_drewN | apply below_drew1 | refine below_set ?_ (Nat.le_refl _) | refine below_set ?_ GE232.out) | exact HB.out))))
    (case aL => have := LMc42.out; omega)
    intro v249 w51 ho hb hg hat
    rw [← Ny248.out] at ho
    have n0_ := Aside0.mk (blk_grown (g := w.heap.size) (o := .cells #[.slice A0_0 l0_0.length c0_0, .slice (some ad224) l0_1.length c0_1] 29 (0, 0)) (by (with_reducible repeat (first | refine blk_drewN ?_ _ | refine blk_drew ?_ | refine blk_alloc ?_ _)); exact BK220.out) hg (Kd.R_ne HO243.out BK220.out (by decide)))
    have n1_ := Aside0.mk (Kd.R_over' (by (with_reducible repeat (first | apply Kd.R_alloc | apply Kd.R_drewN | apply Kd.R_drew)); exact HO227.out) (Kd.R_typed (by (with_reducible repeat (first | apply Kd.R_alloc | apply Kd.R_drewN | apply Kd.R_drew)); exact HO243.out)) (by decide) hg)
    have n2_ := Aside0.mk (Kd.R_after (ok := (fun _ => True)) (by (with_reducible repeat (first | apply Kd.R_alloc | apply Kd.R_drewN | apply Kd.R_drew)); exact HO230.out) hg hat)
    have n3_ := Aside0.mk (blk_grown (g := gb232) (o := .cells #[.slice Ao29 l0_0.length co29, .slice Ao31 M0.length co31] 29 (0, 0)) (by (with_reducible repeat (first | refine blk_drewN ?_ _ | refine blk_drew ?_ | refine blk_alloc ?_ _)); exact BK232.out) hg (Kd.R_ne HO243.out BK232.out (by decide)))
    have n4_ := Aside0.mk (hb)
    have n5_ := Aside0.mk (ho)
    clear BK220
    clear HO227
    clear HO230
    clear BK232
    clear HB
    clear HO243
    have BK220 := n0_
    have HO227 := n1_
    have HO230 := n2_
    have BK232 := n3_
    have HB := n4_
    have HO250 := n5_
    clear n0_ n1_ n2_ n3_ n4_ n5_
    clear ho hb hg hat
    obtain ⟨Ao52, co52, eo52⟩ := Kd.R_slice HO250.out
    (first | subst eo52 | (injection eo52 with f1_ f2_ f3_; have f4_ := f1_.symm; have f5_ := f3_.symm; clear f1_ f2_ f3_; subst f4_; subst f5_))
    refine hK.out _ _ ⟨(blk_cell BK232.out 0).trans rfl, (blk_cell BK232.out 1).trans rfl, (blk_cell BK220.out 0).trans rfl, (blk_cell BK220.out 1).trans rfl⟩ (fun hHeld => ?_)
    clear hK K
    refine norm_ (a' := ?_) ?_ ?_
    rotate_left
    · show Act.put _ (some 79) _ = _
      simp only [Act.put, List.setIfInBounds_toArray, List.set_cons_zero, List.set_cons_succ, i64_w, i32_w]
      rfl
    refine one_ (i := 25) (N := some 80) #[true, true, true, true, true, true, true, true, true, true, true, true, true, true, true, true, true, true, true, true, true, true, true, true, true, true, false, false] rfl rfl (one_of HT_.out (by kernel_rfl)) (by decide) (fun K hK => ?_)
    refine goes_ Try.func29 (by kernel_rfl) rfl #[.slice Ao31 M0.length co31, .slice Ao52 y248.length co52] (by rfl) rfl rfl (by (try simp only [List.map_toArray, List.map_cons, List.map_nil]); first | done | rfl | (simp only [List.length_drop, List.length_take]; rfl)) ?_
    with_reducible refine (letterbagkit_SameLegs.calls kj7 _ _ M0 _ _ y248 true _ ?side1 ?side2 ?side3 ?side4 A43.out).mono ?_
    (case side1 => repeat (first | exact (Kd.R_reads' HO230.out).2.2 | (with_reducible refine Kd.C_alloc ?_ _) | (with_reducible refine Kd.C_drewN ?_ _) | (with_reducible refine Kd.C_drew ?_)))
    (case side2 => exact (Kd.R_reads' HO230.out).2.1)
    (case side3 => repeat (first | exact (Kd.R_reads' HO250.out).2.2 | (with_reducible refine Kd.C_alloc ?_ _) | (with_reducible refine Kd.C_drewN ?_ _) | (with_reducible refine Kd.C_drew ?_)))
    (case side4 => exact (Kd.R_reads' HO250.out).2.1)
    rintro e w' ⟨rfl, ⟨nd, rfl⟩⟩
    refine ⟨_, rfl, ?_⟩
    refine hK.out _ _ ⟨(blk_cell BK232.out 0).trans rfl, (blk_cell BK232.out 1).trans rfl, (blk_cell BK220.out 0).trans rfl, (blk_cell BK220.out 1).trans rfl⟩ (fun hHeld => ?_)
    clear hK K
    refine norm_ (a' := ?_) ?_ ?_
    rotate_left
    · show Act.put _ (some 80) _ = _
      simp only [Act.put, List.setIfInBounds_toArray, List.set_cons_zero, List.set_cons_succ, i64_w, i32_w]
      rfl
    refine pure_ (i := 26) (N := some 81) (v := ?_) (a' := ?_) #[true, true, true, true, true, true, true, true, true, true, true, true, true, true, true, true, true, true, true, true, true, true, true, true, true, true, true, false] rfl rfl (any_of HT_.out (by kernel_rfl)) (fun _ _ _ h => h) (Or.inl ⟨by rfl, ?_⟩) ?_ ?_
    rotate_left
    · intro w'
      go_simp
      with_reducible rfl
    rotate_left
    · simp only [Act.put, List.setIfInBounds_toArray, List.set_cons_zero, List.set_cons_succ, i64_w, i32_w]
      rfl
    refine pure_ (i := 27) (N := some 82) (v := ?_) (a' := ?_) #[true, true, true, true, true, true, true, true, true, true, true, true, true, true, true, true, true, true, true, true, true, true, true, true, true, true, true, true] rfl rfl (any_of HT_.out (by kernel_rfl)) (fun _ _ _ h => h) (Or.inl ⟨by rfl, ?_⟩) ?_ ?_
    rotate_left
    · intro w'
      go_simp
      with_reducible rfl
    rotate_left
    · simp only [Act.put, List.setIfInBounds_toArray, List.set_cons_zero, List.set_cons_succ, i64_w, i32_w]
      rfl
    refine done_ (done_of HT_.out (by kernel_rfl)) ?_

    try go_wp2
    go_meet
    case rel => exact ⟨by first | rfl | (simp; done), ⟨by (with_reducible repeat (first | apply Kd.R_alloc | apply Kd.R_drewN | apply Kd.R_drew)); first | exact HO227.out | exact Kd.R_mono HO227.out (fun _ _ => True.intro)⟩, ⟨by (with_reducible repeat (first | apply Kd.R_alloc | apply Kd.R_drewN | apply Kd.R_drew)); first | exact HO230.out | exact Kd.R_mono HO230.out (fun _ _ => True.intro)⟩, ⟨by (with_reducible repeat (first | refine blk_drewN ?_ _ | refine blk_drew ?_ | refine blk_alloc ?_ _)); exact BK220.out⟩, ⟨by (with_reducible repeat (first | refine blk_drewN ?_ _ | refine blk_drew ?_ | refine blk_alloc ?_ _)); exact BK232.out⟩, ⟨by repeat (first | (with_reducible first | exact HB.out | apply below_alloc | apply pw_below_drewN | apply below_drew1) | exact HB.out)⟩⟩
  case rest =>
  obtain ⟨rfl, HO227', HO230', BK220', BK, HB'⟩ := hcut
  clear HO227 HO230 BK220 BK232 HB
  obtain ⟨wd, hwd⟩ : ∃ wd : World, wd = wc := ⟨_, rfl⟩
  subst hwd
  have KM0 := Aside0.mk (Kd.R_reads' HO227'.out).2
  have KM1 := Aside0.mk (Kd.R_reads' HO230'.out).2
  have ND : Aside0 (NetW A0_0 c0_0 l0_0 (some ad224) c0_1 l0_1 w wd) := ⟨⟨BK220'.out, HB'.out⟩⟩
  have D0 := Aside0.mk (Below.refl wd.heap.size wd)
  obtain ⟨x0, x1, x2⟩ := ND.out.cells
  have y0 : wd.cell? ⟨gb232, 0, none⟩ = some (.slice Ao29 l0_0.length co29) := (blk_cell BK.out 0).trans rfl
  have y1 : wd.cell? ⟨gb232, 1, none⟩ = some (.slice Ao31 M0.length co31) := (blk_cell BK.out 1).trans rfl
  clear HO227' HO230' BK220' HB'
  go_wp2_with (first | (go_at_call_of 23 c0_0; (with_reducible refine (route_Arrive.calls A0_0 c0_0 l0_0 (some ad224) c0_1 l0_1 a1 a3 X 0 _ (Kd.C_below HR0_0.out (ND.out.next D0.out).below) hc0_0 (Kd.C_below HR0_1.out (ND.out.next D0.out).below) hc0_1 HX.out).mono ?_); rintro e wX ⟨vX, rfl, ho, hb⟩; obtain ⟨AX, cX, eX⟩ := Kd.R_slice ho; rw [LX.out] at eX; subst eX; have D1 := Aside0.mk hb; have KX1 := Aside0.mk (Kd.R_reads' ho).2.2; clear ho hb; have NX := Aside0.mk (ND.out.next D1.out); obtain ⟨x0, x1, x2⟩ := NX.out.cells; have y0 : wX.cell? ⟨gb232, 0, none⟩ = some (.slice Ao29 l0_0.length co29) := (blk_cell (blk_below BK.out D1.out) 0).trans rfl; have y1 : wX.cell? ⟨gb232, 1, none⟩ = some (.slice Ao31 M0.length co31) := (blk_cell (blk_below BK.out D1.out) 1).trans rfl) | (go_at_call_of 23 co29; (with_reducible refine (route_Arrive.calls Ao29 co29 l0_0 Ao31 co31 M0 a1 a3 Y 0 _ (Kd.C_below KM0.out.2 D1.out) KM0.out.1 (Kd.C_below KM1.out.2 D1.out) KM1.out.1 HY.out).mono ?_); rintro e wY ⟨vY, rfl, ho, hb⟩; obtain ⟨AY, cY, eY⟩ := Kd.R_slice ho; rw [LY.out] at eY; subst eY; have D2 := Aside0.mk (below_then D1.out D1.out.size hb); have KX2 := Aside0.mk (Kd.C_below KX1.out hb); have KY2 := Aside0.mk (Kd.R_reads' ho).2.2; clear ho hb; have NX := Aside0.mk (ND.out.next D2.out); obtain ⟨x0, x1, x2⟩ := NX.out.cells; have y0 : wY.cell? ⟨gb232, 0, none⟩ = some (.slice Ao29 l0_0.length co29) := (blk_cell (blk_below BK.out D2.out) 0).trans rfl; have y1 : wY.cell? ⟨gb232, 1, none⟩ = some (.slice Ao31 M0.length co31) := (blk_cell (blk_below BK.out D2.out) 1).trans rfl) | (go_at_call_of 30 c0_0; (with_reducible refine (route_Way.calls A0_0 c0_0 l0_0 (some ad224) c0_1 l0_1 a1 a2 a3 W we _ (Kd.C_below HR0_0.out (ND.out.next D2.out).below) hc0_0 (Kd.C_below HR0_1.out (ND.out.next D2.out).below) hc0_1 HWW.out).mono ?_); rintro e wW ⟨vW, rfl, ho, hb⟩; obtain ⟨AW, cW, eW⟩ := Kd.R_slice ho; subst eW; have D3 := Aside0.mk (below_then D2.out D2.out.size hb); have KX3 := Aside0.mk (Kd.C_below KX2.out hb); have KY3 := Aside0.mk (Kd.C_below KY2.out hb); have KW3 := Aside0.mk (Kd.R_reads' ho).2; clear ho hb; have NX := Aside0.mk (ND.out.next D3.out); obtain ⟨x0, x1, x2⟩ := NX.out.cells; have y0 : wW.cell? ⟨gb232, 0, none⟩ = some (.slice Ao29 l0_0.length co29) := (blk_cell (blk_below BK.out D3.out) 0).trans rfl; have y1 : wW.cell? ⟨gb232, 1, none⟩ = some (.slice Ao31 M0.length co31) := (blk_cell (blk_below BK.out D3.out) 1).trans rfl) | (go_at_call_of 30 co29; (with_reducible refine (route_Way.calls Ao29 co29 l0_0 Ao31 co31 M0 a1 a2 a3 V ve _ (Kd.C_below KM0.out.2 D3.out) KM0.out.1 (Kd.C_below KM1.out.2 D3.out) KM1.out.1 HWV.out).mono ?_); rintro e wV ⟨vV, rfl, ho, hb⟩; obtain ⟨AV, cV, eV⟩ := Kd.R_slice ho; subst eV; have D4 := Aside0.mk (below_then D3.out D3.out.size hb); have KX4 := Aside0.mk (Kd.C_below KX3.out hb); have KY4 := Aside0.mk (Kd.C_below KY3.out hb); have HcWx := Aside0.mk KW3.out.1; have KW4 := Aside0.mk (Kd.C_below KW3.out.2 hb); have KV4 := Aside0.mk (Kd.R_reads' ho).2; clear ho hb; have NX := Aside0.mk (ND.out.next D4.out); obtain ⟨x0, x1, x2⟩ := NX.out.cells; have y0 : wV.cell? ⟨gb232, 0, none⟩ = some (.slice Ao29 l0_0.length co29) := (blk_cell (blk_below BK.out D4.out) 0).trans rfl; have y1 : wV.cell? ⟨gb232, 1, none⟩ = some (.slice Ao31 M0.length co31) := (blk_cell (blk_below BK.out D4.out) 1).trans rfl))
  obtain ⟨w4, hw4⟩ : ∃ w4 : World, w4 = wV := ⟨_, rfl⟩
  subst hw4
  clear D0 D1 D2 D3 KX1 KX2 KX3 KY2 KY3 KW3 x0 x1 x2 y0 y1 NX
  have HCW := Aside0.mk HcWx.out
  go_loopw [22] (fun i wr => ∃ x : Int, i = .int .i64 x ∧ Aside0 (0 ≤ x ∧ x ≤ l0_0.length) ∧ Aside0 (Below wd.heap.size wd wr) ∧ Aside0 (Below w4.heap.size w4 wr)) (fun i _ => l0_0.length - (intOf i).toNat)
  case atStart => exact ⟨0, rfl, ⟨by omega⟩, D4, ⟨Below.refl _ _⟩⟩
  case round =>
    obtain ⟨x, rfl, HXX, HBR, HB4⟩ := hrel
    have hx0 : 0 ≤ x := HXX.out.1
    by_cases hx : x < (l0_0.length : Int)
    · have hxX : x < (X.length : Int) := by rw [LX.out]; exact hx
      have hxY : x < (Y.length : Int) := by rw [LY.out]; exact hx
      obtain ⟨aX, eX, gX⟩ := Kd.at_int (Kd.C_below KX4.out HB4.out) x hx0 hxX
      obtain ⟨aY, eY, gY⟩ := Kd.at_int (Kd.C_below KY4.out HB4.out) x hx0 hxY
      subst eX eY
      have hfx := HXY.out x hx0 hx
      generalize rd X x = xx at gX hfx
      generalize rd Y x = yy at gY hfx
      have HFX := Aside0.mk hfx
      have HW1 : Aside0 (0 ≤ x + 1 ∧ x + 1 ≤ (l0_0.length : Int)) := ⟨by omega⟩
      have HWw : Aside0 (wrap64 (x + 1) = x + 1) := ⟨by unfold wrap64; omega⟩
      clear hfx hxX hxY
      go_upto_region 18 with fail
      go_cut [150] (fun v150 wc => v150 = .bool false ∧ Aside0 (∃ n, wc = wr.drewN n))
      case first =>
        by_cases c1 : 0 ≤ yy
        · have d1 := decide_eq_true c1
          obtain ⟨c2, c3⟩ := HFX.out c1
          have d2 : decide (xx < 0) = false := decide_eq_false (by omega)
          have d3 : decide (yy < xx) = false := decide_eq_false (by omega)
          go_quiet (fail)
          all_goals (go_wp2; go_meet)
          case rel => exact ⟨rfl, ⟨⟨_, rfl⟩⟩⟩
        · have d1 := decide_eq_false c1
          go_quiet (fail)
          all_goals (go_wp2; go_meet)
          case rel => exact ⟨rfl, ⟨⟨_, rfl⟩⟩⟩
      case rest =>
      obtain ⟨rfl, hn⟩ := hcut
      have hbr2 : Aside0 (Below wd.heap.size wd wc) := ⟨by obtain ⟨n, e⟩ := hn.out; rw [e]; exact pw_below_drewN HBR.out n⟩
      have hb42 : Aside0 (Below w4.heap.size w4 wc) := ⟨by obtain ⟨n, e⟩ := hn.out; rw [e]; exact pw_below_drewN HB4.out n⟩
      go_wp2
      go_roundw
      case rel => exact ⟨x + 1, by first | rfl | go_num | (rw [HWw.out]) | (simp only [HWw.out]), HW1, hbr2, hb42⟩
      case measure =>
        have := HW1.out
        simp [intOf, HWw.out]
        try omega
    · obtain rfl : x = (l0_0.length : Int) := by have := HXX.out; omega
      have KW5 := Aside0.mk (Kd.C_below KW4.out HB4.out)
      have KV5 := Aside0.mk (Kd.C_below KV4.out.2 HB4.out)
      have HVc := Aside0.mk KV4.out.1
      clear KX4 KY4 KW4 KV4
      go_wp2
      obtain ⟨w5, hw5⟩ : ∃ w5 : World, w5 = wr := ⟨_, rfl⟩
      subst hw5
      go_loopw [23, 24] (fun h i wr => ∃ x : Int, i = .int .i64 x ∧ h = .bool (hasV id W x) ∧ Aside0 (0 ≤ x ∧ x ≤ W.length) ∧ Aside0 (Below w5.heap.size w5 wr)) (fun _ i _ => W.length - (intOf i).toNat)
      case atStart => exact ⟨0, rfl, rfl, ⟨by omega⟩, ⟨Below.refl _ _⟩⟩
      case round =>
        obtain ⟨x, rfl, rfl, HXX2, HB5⟩ := hrel
        have hx0 : 0 ≤ x := HXX2.out.1
        have HBd := Aside0.mk (below_then HBR.out HBR.out.size HB5.out)
        by_cases hx : x < (W.length : Int)
        · have hs := hasV_succ id W x hx0 hx
          obtain ⟨ad, eA, g0, _⟩ := at_T45 (Kd.C_below KW5.out HB5.out) x hx0 hx
          obtain ⟨ad2, eA2, i0, _⟩ := at_T23 (Kd.C_below HR0_1.out (ND.out.next HBd.out).below) pv hp0 hp1
          subst eA
          cases eA2
          rw [← HID.out] at i0
          have n1 := (ND.out.next HBd.out).cells.2.1
          generalize (rd_T45 W x).f0 = s0 at g0 hs
          have HS := Aside0.mk hs
          have HW1 : Aside0 (0 ≤ x + 1 ∧ x + 1 ≤ (W.length : Int)) := ⟨by omega⟩
          have HWw : Aside0 (wrap64 (x + 1) = x + 1) := ⟨by unfold wrap64; omega⟩
          clear hs
          go_upto_region 24 with fail
          generalize hhv : hasV id W x = hv at *
          cases hv with
          | true =>
            go_quiet (fail)
            go_wp2
            go_roundw
            case rel => exact ⟨x + 1, by first | rfl | go_num | (rw [HWw.out]) | (simp only [HWw.out]), by rw [HS.out]; rfl, HW1, ⟨pw_below_drewN HB5.out _⟩⟩
            case measure =>
              have := HW1.out
              simp [intOf, HWw.out]
              try omega
          | false =>
            generalize hbb : (s0 == id) = bb at *
            go_quiet (fail)
            go_wp2
            go_roundw
            case rel => exact ⟨x + 1, by first | rfl | go_num | (rw [HWw.out]) | (simp only [HWw.out]), by rw [HS.out, Bool.false_or], HW1, ⟨pw_below_drewN HB5.out _⟩⟩
            case measure =>
              have := HW1.out
              simp [intOf, HWw.out]
              try omega
        · obtain rfl : x = (W.length : Int) := by have := HXX2.out; omega
          have HSM := HSAME
          generalize hasV id W (W.length : Int) = hv at *
          cases hv with
          | true =>
            go_wp2
            go_ret
            exact ⟨rfl, (ND.out.next HBd.out).below⟩
          | false =>
            obtain ⟨eV, ee⟩ := HSM.out rfl
            subst eV ee
            have HSW : Aside0 (letterbaglaw33_Same.f 300 V V = some true) := ⟨same_f V (by omega) 300 (by omega)⟩
            clear HSM HSAME
            go_wp2_with (first | (go_at_call 31; refine (letterbaglaw33_Same.calls 300 AW cW V AV cV V true _ (Kd.C_below KW5.out HB5.out) HCW.out (Kd.C_below KV5.out HB5.out) HVc.out HSW.out).mono ?_; rintro e w9 ⟨rfl, ⟨md2, rfl⟩⟩))
            go_ret
            exact ⟨rfl, pw_below_drewN (ND.out.next HBd.out).below md2⟩
end Go.Proofs.Ytdpadeklociinaa.PA
