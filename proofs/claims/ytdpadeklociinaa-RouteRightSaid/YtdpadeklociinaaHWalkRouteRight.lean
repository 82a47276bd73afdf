import Derived.Test.YtdpadeklociinaaHNetW
import Derived.Test.YtdpadeklociinaaHPureRef
import Derived.Test.YtdpadeklociinaaHCut
import Derived.Deep.RegionHeld3
set_option linter.unusedVariables false
set_option linter.unusedSimpArgs false
namespace Go.Proofs.Ytdpadeklociinaa.PA
open Go.RowKit Go.Maps Go.Proofs.YtdpadeklociinaaW.PrintWords Go.Proofs.YtdpadeklociinaaW.PrintLast Go.Proofs.YtdpadeklociinaaW.PrintMore Go.Proofs.Ytdpadeklociinaa
def st50 (s : S50) : Int × Int × Int := (s.f0, s.f1, s.f2)
theorem cell_put2r {w : World} {p : Addr} {u v0 v1 : Value} {g : Nat} (h : w.cell? p = some u) (hne : g ≠ p.block) : ((w.setCell ⟨g, 0, none⟩ v0).setCell ⟨g, 1, none⟩ v1).cell? p = some u := cell_set_at (cell_set_at h hne) hne
/-- One stop, as the document tells it. -/
theorem right_none {N : Net.Nw} {q p t s0 s1 s2 : Int} {l : List (Int × Int × Int)} (h : N.legs.find? (fun x => decide (x.id = s0)) = none) : Net.rightGo N q p t ((s0, s1, s2) :: l) = false := by
  unfold Net.rightGo; rw [h]
theorem right_some {N : Net.Nw} {q p t s0 s1 s2 : Int} {l : List (Int × Int × Int)} {y : Net.Leg} (h : N.legs.find? (fun x => decide (x.id = s0)) = some y) :
    (y.src ≠ p → Net.rightGo N q p t ((s0, s1, s2) :: l) = false) ∧ (s1 < 0 → Net.rightGo N q p t ((s0, s1, s2) :: l) = false) ∧ (s1 % 1440 ≠ y.dep → Net.rightGo N q p t ((s0, s1, s2) :: l) = false) ∧
    (Net.onDay y (s1 / 1440) = none → Net.rightGo N q p t ((s0, s1, s2) :: l) = false) ∧
    (∀ d, Net.onDay y (s1 / 1440) = some d → (d + y.mins ≠ s2 → Net.rightGo N q p t ((s0, s1, s2) :: l) = false) ∧ (d - y.cut < t → Net.rightGo N q p t ((s0, s1, s2) :: l) = false) ∧
      (y.src = p → 0 ≤ s1 → s1 % 1440 = y.dep → d + y.mins = s2 → ¬ d - y.cut < t → Net.rightGo N q p t ((s0, s1, s2) :: l) = Net.rightGo N q y.dst s2 l)) := by
  have hu : Net.rightGo N q p t ((s0, s1, s2) :: l) = if y.src = p ∧ 0 ≤ s1 then
        match Net.onDay y (s1 / 1440) with
        | some d => if d = s1 ∧ d + y.mins = s2 ∧ t ≤ d - y.cut then Net.rightGo N q y.dst (d + y.mins) l else false
        | none => false
      else false := by rw [Net.rightGo, h]; rfl
  rw [hu]
  refine ⟨fun h => if_neg (fun x => h x.1), fun h => if_neg (fun x => by omega), fun h1 => ?_, fun h1 => ?_, fun d h1 => ⟨fun h2 => ?_, fun h2 => ?_, fun h2 h3 h4 h5 h6 => ?_⟩⟩
  · split
    · cases ho : Net.onDay y (s1 / 1440) with
      | none => rfl
      | some d =>
        have h2 := Net.onDay_some ho
        have h3 := (Net.Leg.right_iff _).1 h2.1
        dsimp only
        rw [if_neg (fun x => h1 (by omega))]
    · rfl
  · rw [h1]; split <;> rfl
  · rw [h1]; dsimp only; split
    · rw [if_neg (fun x => h2 x.2.1)]
    · rfl
  · rw [h1]; dsimp only; split
    · rw [if_neg (fun x => by omega)]
    · rfl
  · have g2 := Net.onDay_some h1
    rw [h1, if_pos ⟨h2, h3⟩]
    dsimp only
    rw [if_pos ⟨by omega, h5, by omega⟩, h5]
set_option maxRecDepth 100000 in
set_option maxHeartbeats 16000000 in
theorem ref33_Right.calls (A0_0 : Option Addr) (c0_0 : Nat) (l0_0 : List Int) (A0_1 : Option Addr) (c0_1 : Nat) (l0_1 : List S23) (a1 : Int) (a2 : Int) (a3 : Int) (A4 : Option Addr) (c4 : Nat) (l4 : List S50) (r : Bool) (w : World) (hr0_0 : Kd.C (Kd.int .i64) w A0_0 l0_0.length l0_0) (hc0_0 : l0_0.length ≤ c0_0) (hr0_1 : Kd.C k23 w A0_1 l0_1.length l0_1) (hc0_1 : l0_1.length ≤ c0_1) (hr4 : Kd.C k50 w A4 l4.length l4) (hc4 : l4.length ≤ c4) (h : netI l0_0 l0_1 = true ∧ (∀ s ∈ l4, s.f1 ≤ 9223372036854775807) ∧ (if (netOf l0_0 l0_1).openErr a3 [a1, a2] = 0 then Net.rightGo (netOf l0_0 l0_1) a2 a1 a3 (l4.map st50) else false) = r) :
    Calls Try.prog 34 #[.agg #[.slice A0_0 l0_0.length c0_0, .slice A0_1 l0_1.length c0_1], .int .i64 a1, .int .i64 a2, .int .i64 a3, .slice A4 l4.length c4] w fun e w' => e = .returned (.bool r) ∧ Below w.heap.size w w' := by
  obtain ⟨hI, hL, h⟩ := h
  have HI := Aside0.mk hI
  have HL := Aside0.mk hL
  clear hL
  have HR0 := Aside0.mk hr0_0
  have HR1 := Aside0.mk hr0_1
  have HR4 := Aside0.mk hr4
  have N0 := Aside0.mk (NetW.new A0_0 c0_0 l0_0 A0_1 c0_1 l0_1 w)
  have hm4 : l4.length ≤ 9223372036854775807 := hr4.2.1
  clear hr0_0 hr0_1 hI hr4
  have HC := Aside0.mk (check_f l0_0 l0_1 a1 a2 a3 62000 (Nat.le_refl _))
  by_cases he : (netOf l0_0 l0_1).openErr a3 [a1, a2] = 0
  case neg =>
    rw [if_neg he] at h
    subst h
    generalize (netOf l0_0 l0_1).openErr a3 [a1, a2] = ce at HC he
    have dce : (ce != 0) = true := by simpa using he
    clear he
    go_enter Try.func34, Try.ntmps34
    go_wp2_with (first | (go_at_call 67; refine (letterbagref33_check.calls 62000 A0_0 c0_0 l0_0 A0_1 c0_1 l0_1 a1 a2 a3 ce _ (Kd.C_below HR0.out N0.out.below) hc0_0 (Kd.C_below HR1.out N0.out.below) hc0_1 HC.out).mono ?_; rintro e w2 ⟨rfl, hb⟩; have N1 := Aside0.mk (N0.out.next hb); clear hb))
    go_ret
    exact ⟨rfl, N1.out.below⟩
  rw [if_pos he] at h
  rw [he] at HC
  have HV := Aside0.mk (openErr_ok he).1
  have hl200 : l0_1.length ≤ 200 := by have := HV.out.manyL; simpa [netOf] using this
  have H0 := Aside0.mk h
  clear he h
  go_enter Try.func34, Try.ntmps34
  go_wp2_with (first | (go_at_call 67; refine (letterbagref33_check.calls 62000 A0_0 c0_0 l0_0 A0_1 c0_1 l0_1 a1 a2 a3 0 _ (Kd.C_below HR0.out N0.out.below) hc0_0 (Kd.C_below HR1.out N0.out.below) hc0_1 HC.out).mono ?_; rintro e w2 ⟨rfl, hb⟩; have N1 := Aside0.mk (N0.out.next hb); clear hb))
  go_loopw [11, 12, 13] (fun va vt vi wr => ∃ (x p t : Int), va = .int .i64 p ∧ vt = .int .i64 t ∧ vi = .int .i64 x ∧ Aside0 (0 ≤ x ∧ x ≤ l4.length) ∧ Aside0 (Net.rightGo (netOf l0_0 l0_1) a2 p t ((l4.drop x.toNat).map st50) = r) ∧ Aside0 (NetW A0_0 c0_0 l0_0 A0_1 c0_1 l0_1 w wr)) (fun _ _ vi _ => l4.length - (intOf vi).toNat)
  case atStart => exact ⟨0, a1, a3, rfl, rfl, rfl, ⟨by omega⟩, H0, N1⟩
  case round =>
    obtain ⟨x, p, t, rfl, rfl, rfl, HXX, HG, NR⟩ := hrel
    clear N1 H0
    obtain ⟨r0, r1, r2⟩ := NR.out.cells
    have hx0 : 0 ≤ x := HXX.out.1
    by_cases hx : x < (l4.length : Int)
    case neg =>
      obtain rfl : x = (l4.length : Int) := by have := HXX.out; omega
      have hg := HG.out
      rw [Int.toNat_natCast, List.drop_length] at hg
      have hg' : decide (p = a2) = r := hg
      have hb : (p == a2) = r := by rw [← hg', Bool.eq_iff_iff, beq_iff_eq, decide_eq_true_eq]
      have HB := Aside0.mk hb
      clear hg hg' hb
      go_wp2
      go_ret
      exact ⟨by first | exact congrArg (fun b => Ending.returned (.bool b)) HB.out | (simp only [HB.out]) | (simp [HB.out]), NR.out.below⟩
    obtain ⟨ad, eA, g0, g1, g2⟩ := at_T50 (Kd.C_below HR4.out NR.out.below) x hx0 hx
    have hA := Aside0.mk eA
    clear eA
    have hdr : l4.drop x.toNat = rd_T50 l4 x :: l4.drop (x.toNat + 1) := by
      unfold rd_T50
      rw [List.getD_eq_getElem?_getD, List.getElem?_eq_getElem (by omega)]
      exact List.drop_eq_getElem_cons (by omega)
    rw [hdr, List.map_cons] at HG
    have HX1 : Aside0 ((x + 1).toNat = x.toNat + 1) := ⟨by omega⟩
    have HW : Aside0 (0 ≤ x + 1 ∧ x + 1 ≤ (l4.length : Int)) := ⟨by omega⟩
    have HWW : Aside0 (wrap64 (x + 1) = x + 1) := ⟨by unfold wrap64; omega⟩
    clear hdr
    have hs := HL.out (rd_T50 l4 x) (by unfold rd_T50; rw [List.getD_eq_getElem?_getD, List.getElem?_eq_getElem (show x.toNat < l4.length by omega)]; exact List.getElem_mem _)
    generalize rd_T50 l4 x = s at g0 g1 g2 HG hs
    obtain ⟨s0, s1, s2⟩ := s
    dsimp only at g0 g1 g2 hs
    have HG1 : Aside0 (Net.rightGo (netOf l0_0 l0_1) a2 p t ((s0, s1, s2) :: (l4.drop (x.toNat + 1)).map st50) = r) := ⟨HG.out⟩
    clear HG
    -- what is found
    obtain ⟨y0, y1, y2, y3, y4, y5, y6, y7, fb, hF, hfb, hft⟩ : ∃ (y0 y1 y2 y3 y4 y5 y6 y7 : Int) (fb : Bool), letterbagref32_Find.f (l0_1.length + 1) l0_0 l0_1 s0 = some (y0, y1, y2, y3, y4, y5, y6, y7, fb) ∧ (fb = false → r = false) ∧
        (fb = true → (0 ≤ y7 ∧ y7 ≤ 255) ∧ (netOf l0_0 l0_1).legs.find? (fun x => decide (x.id = s0)) = some (toLeg ⟨y0, y1, y2, y3, y4, y5, y6, y7⟩)) := by
      have hf := find32_f l0_0 l0_1 s0 (by omega) (l0_1.length + 1) (by omega)
      have hlf := legs_find l0_0 l0_1 s0
      cases hc : l0_1.find? fun y => decide (y.f0 = s0) with
      | none =>
        rw [hc] at hf hlf
        refine ⟨0, 0, 0, 0, 0, 0, 0, 0, false, hf, fun _ => ?_, fun h => by cases h⟩
        rw [← HG1.out]
        exact right_none hlf
      | some y =>
        rw [hc] at hf hlf
        have hm := List.mem_of_find?_eq_some hc
        have hlI : legI y = true := by
          have h1 := HI.out
          unfold netI at h1
          simp only [Bool.and_eq_true, List.all_eq_true] at h1
          exact h1.2 y hm
        obtain ⟨_, _, i7, i8⟩ := legI_parts hlI
        exact ⟨y.f0, y.f1, y.f2, y.f3, y.f4, y.f5, y.f6, y.f7, true, hf, (fun h => by cases h), fun _ => ⟨⟨i7, i8⟩, hlf⟩⟩
    have HFX := Aside0.mk hF
    have HFB := Aside0.mk hfb
    have HFT := Aside0.mk hft
    clear hF hfb hft
    have gl := World.block_lt_of_cell? wr _ g0
    have gl1 := World.block_lt_of_cell? wr _ g1
    obtain rfl := hA.out
    go_upto_region 8 with fail
    go_cut [14, 15] (fun v14 v15 wc => v15 = .bool fb ∧ ∃ b : Nat, v14 = .pointer (some ⟨b, 0, none⟩) ∧ Aside0 (wr.heap.size ≤ b) ∧ Aside0 (wc.heap[b]? = some (.cells #[.int .i64 y0, .int .i64 y1, .int .i64 y2, .int .i64 y3, .int .i64 y4, .int .i64 y5, .int .i64 y6, .int .u8 y7] 23 (0, 0))) ∧ Aside0 (Below wr.heap.size wr wc))
    case first =>
      go_region_held3 (fun W' => W'.cell? ⟨w.heap.size, 0, none⟩ = some (.slice A0_0 l0_0.length c0_0) ∧ W'.cell? ⟨w.heap.size, 1, none⟩ = some (.slice A0_1 l0_1.length c0_1) ∧ W'.cell? (ad.add (x.toNat * 3)) = some (.int .i64 s0)) (first | (with_reducible exact ⟨f0, f1, f3⟩) | (with_reducible exact ⟨r0, r1, g0⟩) | (with_reducible exact ⟨cell_alloc_at f0 _, cell_alloc_at f1 _, cell_alloc_at f3 _⟩) | (with_reducible exact ⟨cell_put8 f0 (Nat.ne_of_gt r2), cell_put8 f1 (Nat.ne_of_gt r2), cell_put8 f3 (Nat.ne_of_gt gl)⟩) | (with_reducible exact ⟨cell_drew_at r0, cell_drew_at r1, cell_drew_at g0⟩) | (with_reducible exact ⟨cell_alloc_at r0 _, cell_alloc_at r1 _, cell_alloc_at g0 _⟩) | (with_reducible exact ⟨cell_drew_at (cell_alloc_at r0 _), cell_drew_at (cell_alloc_at r1 _), cell_drew_at (cell_alloc_at g0 _)⟩) | (with_reducible exact ⟨cell_alloc_at (cell_drew_at r0) _, cell_alloc_at (cell_drew_at r1) _, cell_alloc_at (cell_drew_at g0) _⟩)) (first | (go_at_call 68; first | (refine (letterbagref32_Find.calls (l0_1.length + 1) A0_0 c0_0 l0_0 A0_1 c0_1 l0_1 s0 y0 y1 y2 y3 y4 y5 y6 y7 fb (wr.drew) (Kd.C_below HR0.out (below_then NR.out.below NR.out.below.size (pw_below_drewN (Below.refl wr.heap.size wr) 1))) hc0_0 (Kd.C_below HR1.out (below_then NR.out.below NR.out.below.size (pw_below_drewN (Below.refl wr.heap.size wr) 1))) hc0_1 HFX.out).mono ?_; rintro en w3 ⟨rfl, hb⟩; have B9 := Aside0.mk (below_then (pw_below_drewN (Below.refl wr.heap.size wr) 1) (by first | exact Nat.le_refl _ | (simp; done)) hb); have N9 := Aside0.mk (NR.out.next B9.out); have f3 : w3.cell? (ad.add (x.toNat * 3)) = some (.int .i64 s0) := (B9.out.cell gl).trans g0; have f4 := Nat.lt_of_lt_of_le gl B9.out.size; clear hb; obtain ⟨f0, f1, f2⟩ := N9.out.cells) | (refine (letterbagref32_Find.calls (l0_1.length + 1) A0_0 c0_0 l0_0 A0_1 c0_1 l0_1 s0 y0 y1 y2 y3 y4 y5 y6 y7 fb ((wr.alloc (.cells #[.int .i64 0, .int .i64 0, .int .i64 0, .int .i64 0, .int .i64 0, .int .i64 0, .int .i64 0, .int .u8 0] 23)).drew) (Kd.C_below HR0.out (below_then NR.out.below NR.out.below.size (pw_below_drewN ((Below.refl wr.heap.size wr).alloc (Nat.le_refl _) (.cells #[.int .i64 0, .int .i64 0, .int .i64 0, .int .i64 0, .int .i64 0, .int .i64 0, .int .i64 0, .int .u8 0] 23)) 1))) hc0_0 (Kd.C_below HR1.out (below_then NR.out.below NR.out.below.size (pw_below_drewN ((Below.refl wr.heap.size wr).alloc (Nat.le_refl _) (.cells #[.int .i64 0, .int .i64 0, .int .i64 0, .int .i64 0, .int .i64 0, .int .i64 0, .int .i64 0, .int .u8 0] 23)) 1))) hc0_1 HFX.out).mono ?_; rintro en w3 ⟨rfl, hb⟩; have B9 := Aside0.mk (below_then (pw_below_drewN ((Below.refl wr.heap.size wr).alloc (Nat.le_refl _) (.cells #[.int .i64 0, .int .i64 0, .int .i64 0, .int .i64 0, .int .i64 0, .int .i64 0, .int .i64 0, .int .u8 0] 23)) 1) (by first | exact Nat.le_refl _ | (simp; done)) hb); have hz := blk_below (blk_drew (blk_new wr (.cells #[.int .i64 0, .int .i64 0, .int .i64 0, .int .i64 0, .int .i64 0, .int .i64 0, .int .i64 0, .int .u8 0] 23))) hb; have HZ := Aside0.mk hz; obtain ⟨q0, q1, q2, q3, q4, q5, q6, q7⟩ := cells23' hz; have p0 := blk_frozen hz 0; have p1 := blk_frozen hz 1; have p2 := blk_frozen hz 2; have p3 := blk_frozen hz 3; have p4 := blk_frozen hz 4; have p5 := blk_frozen hz 5; have p6 := blk_frozen hz 6; have p7 := blk_frozen hz 7; clear hz; have N9 := Aside0.mk (NR.out.next B9.out); have f3 : w3.cell? (ad.add (x.toNat * 3)) = some (.int .i64 s0) := (B9.out.cell gl).trans g0; have f4 := Nat.lt_of_lt_of_le gl B9.out.size; clear hb; obtain ⟨f0, f1, f2⟩ := N9.out.cells)))
      all_goals (go_wp2; go_meet)
      case rel => exact ⟨rfl, w3.heap.size, rfl, ⟨B9.out.size⟩, ⟨blk_new w3 _⟩, ⟨B9.out.alloc B9.out.size _⟩⟩
      case rel =>
        have hp := put8 HZ.out y0 y1 y2 y3 y4 y5 y6 y7 rfl
        exact ⟨rfl, wr.heap.size, rfl, ⟨Nat.le_refl _⟩, ⟨hp.1⟩, ⟨hp.2.2 _ _ B9.out (Nat.le_refl _)⟩⟩
    case rest =>
    obtain ⟨rfl, b, rfl, Hb, HB, BW⟩ := hcut
    obtain ⟨wq, hwq⟩ : ∃ wq : World, wq = wc := ⟨_, rfl⟩
    subst hwq
    have NQ := Aside0.mk (NR.out.next BW.out)
    obtain ⟨v0, v1, v2, v3, v4, v5, v6, v7⟩ := cells23' HB.out
    have v8 := (BW.out.cell gl1).trans g1
    have gl2 := World.block_lt_of_cell? wr _ g2
    have v9 := (BW.out.cell gl2).trans g2
    have hbl := blk_lt HB.out
    clear g0 g1 g2 gl gl1 gl2 r0 r1 r2
    cases fb with
    | false =>
      obtain rfl : r = false := HFB.out rfl
      go_upto_region 9 with fail
      go_quiet (fail)
      all_goals (go_wp2; go_ret)
      exact ⟨rfl, pw_below_drewN NQ.out.below _⟩
    | true =>
      obtain ⟨⟨i7, i8⟩, hfind⟩ := HFT.out rfl
      have hRS := right_some (q := a2) (p := p) (t := t) (s1 := s1) (s2 := s2) (l := (l4.drop (x.toNat + 1)).map st50) hfind
      rw [HG1.out] at hRS
      obtain ⟨e1, e2, e3, e4, e5⟩ := hRS
      have E1 := Aside0.mk e1
      have E2 := Aside0.mk e2
      have E3 := Aside0.mk e3
      have E4 := Aside0.mk e4
      have E5 := Aside0.mk e5
      clear e1 e2 e3 e4 e5 hfind
      by_cases c1 : y1 = p
      case neg =>
        obtain rfl : r = false := E1.out c1
        have d1 : (y1 != p) = true := by simpa using c1
        clear c1
        go_upto_region 9 with fail
        go_quiet (fail)
        all_goals (go_wp2; go_ret)
        exact ⟨rfl, pw_below_drewN NQ.out.below _⟩
      have d1 : (y1 != p) = false := by simpa using c1
      have HC1 := Aside0.mk c1
      clear c1
      by_cases c2 : s1 < 0
      · obtain rfl : r = false := E2.out c2
        have d2 := decide_eq_true c2
        go_upto_region 9 with fail
        go_quiet (fail)
        all_goals (go_wp2; go_ret)
        exact ⟨rfl, pw_below_drewN NQ.out.below _⟩
      have d2 := decide_eq_false c2
      have c2' : 0 ≤ s1 := by omega
      have ht : Int.tmod s1 1440 = s1 % 1440 := Int.tmod_eq_emod_of_nonneg c2'
      have hq : Int.tdiv s1 1440 = s1 / 1440 := Int.tdiv_eq_ediv_of_nonneg c2'
      by_cases c3 : s1 % 1440 = y3
      case neg =>
        obtain rfl : r = false := E3.out c3
        have d3 : (s1 % 1440 != y3) = true := by simpa using c3
        clear c3
        go_upto_region 9 with fail
        go_quiet (fail)
        all_goals (go_wp2; go_ret)
        exact ⟨rfl, pw_below_drewN NQ.out.below _⟩
      have d3 : (s1 % 1440 != y3) = false := by simpa using c3
      have HC3 := Aside0.mk c3
      clear c3
      go_upto_region 9 with fail
      go_cut [68] (fun v68 wc => v68 = .bool false ∧ Aside0 (∃ n, wc = wq.drewN n))
      case first =>
        go_quiet (fail)
        all_goals (go_wp2; go_meet)
        case rel => exact ⟨rfl, ⟨⟨_, rfl⟩⟩⟩
      case rest =>
      obtain ⟨rfl, hn⟩ := hcut
      obtain ⟨wp, hwp⟩ : ∃ wp : World, wp = wc := ⟨_, rfl⟩
      subst hwp
      have BP : Aside0 (Below wq.heap.size wq wp) := ⟨by obtain ⟨n, e⟩ := hn.out; rw [e]; exact pw_below_drewN (Below.refl _ _) n⟩
      have NP := Aside0.mk (NQ.out.next BP.out)
      have HBP := Aside0.mk (blk_below HB.out BP.out)
      have sv1 := cell_below BP.out v8
      have sv2 := cell_below BP.out v9
      clear v0 v1 v2 v3 v4 v5 v6 v7 v8 v9 hbl hn
      obtain ⟨v0, v1, v2, v3, v4, v5, v6, v7⟩ := cells23' HBP.out
      have v8 := sv1
      clear sv1
      obtain ⟨d1, d2, ob, hO, hof, hot⟩ : ∃ (d1 d2 : Int) (ob : Bool), letterbagref32_On.f 20 y0 y1 y2 y3 y4 y5 y6 y7 (s1 / 1440) = some (d1, d2, ob) ∧ (ob = false → r = false) ∧
          (ob = true → (0 ≤ d1 - y5 ∧ d1 - y5 ≤ 1051898399) ∧ (d2 ≠ s2 → r = false) ∧ (d1 - y5 < t → r = false) ∧ (d2 = s2 → ¬ d1 - y5 < t → r = Net.rightGo (netOf l0_0 l0_1) a2 y2 s2 ((l4.drop (x.toNat + 1)).map st50))) := by
        have hf := on32_f ⟨y0, y1, y2, y3, y4, y5, y6, y7⟩ ⟨i7, i8⟩ (s1 / 1440) 20 (Nat.le_refl _)
        cases ho : Net.onDay (toLeg ⟨y0, y1, y2, y3, y4, y5, y6, y7⟩) (s1 / 1440) with
        | none =>
          rw [ho] at hf
          exact ⟨0, 0, false, hf, fun _ => E4.out ho, fun h => by cases h⟩
        | some d =>
          rw [ho] at hf
          obtain ⟨k1, k2, k3⟩ := E5.out d ho
          have k4 := Net.onDay_some ho
          have k5 := (Net.Leg.right_iff _).1 k4.1
          have e4 : (toLeg ⟨y0, y1, y2, y3, y4, y5, y6, y7⟩).mins = y4 := rfl
          have e5 : (toLeg ⟨y0, y1, y2, y3, y4, y5, y6, y7⟩).cut = y5 := rfl
          refine ⟨d, d + y4, true, hf, (fun h => by cases h), fun _ => ⟨⟨by omega, by omega⟩, k1, k2, fun h1 h2 => k3 HC1.out c2' HC3.out h1 h2⟩⟩
      have HON := Aside0.mk hO
      have HOF := Aside0.mk hof
      have HOT := Aside0.mk hot
      clear hO hof hot E4 E5
      have hwq : IntKind.i64.wrap (s1 / 1440) = s1 / 1440 := by rw [IntKind.wrap_i64]; omega
      have hbw : wp.heap.size ≠ b := Nat.ne_of_gt (blk_lt HBP.out)
      have hsw := Nat.ne_of_gt (World.block_lt_of_cell? wp _ v8)
      go_upto_region 11 with fail
      go_cut [16, 17] (fun v16 v17 wc => v17 = .bool ob ∧ ∃ b2 : Nat, v16 = .pointer (some ⟨b2, 0, none⟩) ∧ Aside0 (wc.heap[b2]? = some (.cells #[.int .i64 d1, .int .i64 d2] 120 (0, 0))) ∧ Aside0 (Below wp.heap.size wp wc))
      case first =>
        go_region_held3 (fun W' => W'.cell? ⟨b, 0, none⟩ = some (.int .i64 y0) ∧ W'.cell? ⟨b, 1, none⟩ = some (.int .i64 y1) ∧ W'.cell? ⟨b, 2, none⟩ = some (.int .i64 y2) ∧ W'.cell? ⟨b, 3, none⟩ = some (.int .i64 y3) ∧ W'.cell? ⟨b, 4, none⟩ = some (.int .i64 y4) ∧ W'.cell? ⟨b, 5, none⟩ = some (.int .i64 y5) ∧ W'.cell? ⟨b, 6, none⟩ = some (.int .i64 y6) ∧ W'.cell? ⟨b, 7, none⟩ = some (.int .u8 y7) ∧ W'.cell? ⟨(ad.add (x.toNat * 3)).block, (ad.add (x.toNat * 3)).off + 1, none⟩ = some (.int .i64 s1)) (first | (with_reducible exact ⟨u0, u1, u2, u3, u4, u5, u6, u7, u8⟩) | (with_reducible exact ⟨v0, v1, v2, v3, v4, v5, v6, v7, v8⟩) | (with_reducible exact ⟨cell_alloc_at u0 _, cell_alloc_at u1 _, cell_alloc_at u2 _, cell_alloc_at u3 _, cell_alloc_at u4 _, cell_alloc_at u5 _, cell_alloc_at u6 _, cell_alloc_at u7 _, cell_alloc_at u8 _⟩) | (with_reducible exact ⟨cell_put2r u0 hbw, cell_put2r u1 hbw, cell_put2r u2 hbw, cell_put2r u3 hbw, cell_put2r u4 hbw, cell_put2r u5 hbw, cell_put2r u6 hbw, cell_put2r u7 hbw, cell_put2r u8 hsw⟩) | (with_reducible exact ⟨cell_drew_at v0, cell_drew_at v1, cell_drew_at v2, cell_drew_at v3, cell_drew_at v4, cell_drew_at v5, cell_drew_at v6, cell_drew_at v7, cell_drew_at v8⟩) | (with_reducible exact ⟨cell_alloc_at v0 _, cell_alloc_at v1 _, cell_alloc_at v2 _, cell_alloc_at v3 _, cell_alloc_at v4 _, cell_alloc_at v5 _, cell_alloc_at v6 _, cell_alloc_at v7 _, cell_alloc_at v8 _⟩) | (with_reducible exact ⟨cell_drew_at (cell_alloc_at v0 _), cell_drew_at (cell_alloc_at v1 _), cell_drew_at (cell_alloc_at v2 _), cell_drew_at (cell_alloc_at v3 _), cell_drew_at (cell_alloc_at v4 _), cell_drew_at (cell_alloc_at v5 _), cell_drew_at (cell_alloc_at v6 _), cell_drew_at (cell_alloc_at v7 _), cell_drew_at (cell_alloc_at v8 _)⟩) | (with_reducible exact ⟨cell_alloc_at (cell_drew_at v0) _, cell_alloc_at (cell_drew_at v1) _, cell_alloc_at (cell_drew_at v2) _, cell_alloc_at (cell_drew_at v3) _, cell_alloc_at (cell_drew_at v4) _, cell_alloc_at (cell_drew_at v5) _, cell_alloc_at (cell_drew_at v6) _, cell_alloc_at (cell_drew_at v7) _, cell_alloc_at (cell_drew_at v8) _⟩)) (first | (go_at_call 69; first | (refine (letterbagref32_On.calls 20 y0 y1 y2 y3 y4 y5 y6 y7 (s1 / 1440) d1 d2 ob (wp.drew) HON.out).mono ?_; rintro en w3 ⟨rfl, hb⟩; have B9 := Aside0.mk (below_then (pw_below_drewN (Below.refl wp.heap.size wp) 1) (by first | exact Nat.le_refl _ | (simp; done)) hb); have u0 := cell_below B9.out v0; have u1 := cell_below B9.out v1; have u2 := cell_below B9.out v2; have u3 := cell_below B9.out v3; have u4 := cell_below B9.out v4; have u5 := cell_below B9.out v5; have u6 := cell_below B9.out v6; have u7 := cell_below B9.out v7; have u8 := cell_below B9.out v8; clear hb) | (refine (letterbagref32_On.calls 20 y0 y1 y2 y3 y4 y5 y6 y7 (s1 / 1440) d1 d2 ob ((wp.alloc (.cells #[.int .i64 0, .int .i64 0] 120)).drew) HON.out).mono ?_; rintro en w3 ⟨rfl, hb⟩; have B9 := Aside0.mk (below_then (pw_below_drewN ((Below.refl wp.heap.size wp).alloc (Nat.le_refl _) (.cells #[.int .i64 0, .int .i64 0] 120)) 1) (by first | exact Nat.le_refl _ | (simp; done)) hb); have hz := blk_below (blk_drew (blk_new wp (.cells #[.int .i64 0, .int .i64 0] 120))) hb; have HZ := Aside0.mk hz; have q0 : w3.cell? ⟨wp.heap.size, 0, none⟩ = some (.int .i64 0) := (blk_cell hz 0).trans rfl; have q1 : w3.cell? ⟨wp.heap.size, 1, none⟩ = some (.int .i64 0) := (blk_cell hz 1).trans rfl; have p0 := blk_frozen hz 0; have p1 := blk_frozen hz 1; clear hz; have u0 := cell_below B9.out v0; have u1 := cell_below B9.out v1; have u2 := cell_below B9.out v2; have u3 := cell_below B9.out v3; have u4 := cell_below B9.out v4; have u5 := cell_below B9.out v5; have u6 := cell_below B9.out v6; have u7 := cell_below B9.out v7; have u8 := cell_below B9.out v8; clear hb)))
        all_goals (go_wp2; go_meet)
        case rel => exact ⟨rfl, w3.heap.size, rfl, ⟨blk_new w3 _⟩, ⟨B9.out.alloc B9.out.size _⟩⟩
        case rel => exact ⟨rfl, wp.heap.size, rfl, ⟨blk_put (cs := #[.int .i64 d1, .int .i64 0]) (blk_put (cs := #[.int .i64 0, .int .i64 0]) HZ.out 0 _ rfl) 1 _ rfl⟩, ⟨(B9.out.setCell (Nat.le_refl _) _).setCell (Nat.le_refl _) _⟩⟩
      case rest =>
      obtain ⟨rfl, b2, rfl, HB2, BC⟩ := hcut
      have u0 : wc.cell? ⟨b2, 0, none⟩ = some (.int .i64 d1) := (blk_cell HB2.out 0).trans rfl
      have u1 : wc.cell? ⟨b2, 1, none⟩ = some (.int .i64 d2) := (blk_cell HB2.out 1).trans rfl
      have u2 := cell_below BC.out v2
      have u5 := cell_below BC.out v5
      have u9 := cell_below BC.out sv2
      have NC := Aside0.mk (NP.out.next BC.out)
      clear v0 v1 v2 v3 v4 v5 v6 v7 v8 sv2 hbw hsw
      cases ob with
      | false =>
        obtain rfl : r = false := HOF.out rfl
        go_upto_region 12 with fail
        go_quiet (fail)
        all_goals (go_wp2; go_ret)
        exact ⟨rfl, pw_below_drewN NC.out.below _⟩
      | true =>
        obtain ⟨⟨k1, k2⟩, k3, k4, k5⟩ := HOT.out rfl
        have K3 := Aside0.mk k3
        have K4 := Aside0.mk k4
        have K5 := Aside0.mk k5
        clear k3 k4 k5
        have hwd : IntKind.i64.wrap (d1 - y5) = d1 - y5 := by rw [IntKind.wrap_i64]; omega
        by_cases c5 : d2 = s2
        case neg =>
          obtain rfl : r = false := K3.out c5
          have d5 : (d2 != s2) = true := by simpa using c5
          clear c5
          go_upto_region 12 with fail
          go_quiet (fail)
          all_goals (go_wp2; go_ret)
          exact ⟨rfl, pw_below_drewN NC.out.below _⟩
        have d5 : (d2 != s2) = false := by simpa using c5
        have HC5 := Aside0.mk c5
        clear c5
        by_cases c6 : d1 - y5 < t
        · obtain rfl : r = false := K4.out c6
          have d6 := decide_eq_true c6
          go_upto_region 12 with fail
          go_quiet (fail)
          all_goals (go_wp2; go_ret)
          exact ⟨rfl, pw_below_drewN NC.out.below _⟩
        have d6 := decide_eq_false c6
        have HR := Aside0.mk (K5.out HC5.out c6)
        clear c6
        go_upto_region 12 with fail
        go_quiet (fail)
        all_goals go_wp2
        go_roundw
        case rel => exact ⟨x + 1, y2, s2, by first | rfl | go_num, by first | rfl | go_num, by first | rfl | go_num | (rw [HWW.out]) | (simp only [HWW.out]), HW, ⟨by rw [HX1.out]; exact HR.out.symm⟩, ⟨NC.out.blk, pw_below_drewN NC.out.below _⟩⟩
        case measure =>
          have := HW.out
          simp [intOf, HWW.out]
          try omega
end Go.Proofs.Ytdpadeklociinaa.PA
namespace Go.Proofs.Ytdpadeklociinaa.PA
open Go.RowKit Go.Maps Go.Proofs.YtdpadeklociinaaW.PrintWords Go.Proofs.YtdpadeklociinaaW.PrintLast Go.Proofs.YtdpadeklociinaaW.PrintMore Go.Proofs.Ytdpadeklociinaa
theorem ref33_Right.calls_n (A0_0 : Option Addr) (c0_0 : Nat) (l0_0 : List Int) (A0_1 : Option Addr) (c0_1 : Nat) (l0_1 : List S23) (a1 : Int) (a2 : Int) (a3 : Int) (A4 : Option Addr) (c4 : Nat) (l4 : List S50) (n : Nat) (hn : l4.length = n) (r : Bool) (w : World) (hr0_0 : Kd.C (Kd.int .i64) w A0_0 l0_0.length l0_0) (hc0_0 : l0_0.length ≤ c0_0) (hr0_1 : Kd.C k23 w A0_1 l0_1.length l0_1) (hc0_1 : l0_1.length ≤ c0_1) (hr4 : Kd.C k50 w A4 l4.length l4) (hc4 : l4.length ≤ c4) (h : netI l0_0 l0_1 = true ∧ (∀ s ∈ l4, s.f1 ≤ 9223372036854775807) ∧ (if (netOf l0_0 l0_1).openErr a3 [a1, a2] = 0 then Net.rightGo (netOf l0_0 l0_1) a2 a1 a3 (l4.map st50) else false) = r) :
    Calls Try.prog 34 #[.agg #[.slice A0_0 l0_0.length c0_0, .slice A0_1 l0_1.length c0_1], .int .i64 a1, .int .i64 a2, .int .i64 a3, .slice A4 n c4] w fun e w' => e = .returned (.bool r) ∧ Below w.heap.size w w' := by
  subst hn
  exact ref33_Right.calls A0_0 c0_0 l0_0 A0_1 c0_1 l0_1 a1 a2 a3 A4 c4 l4 r w hr0_0 hc0_0 hr0_1 hc0_1 hr4 hc4 h
def to50 (s : S45) : S50 := ⟨s.f0, s.f1, s.f2⟩
theorem to50_snoc (l : List S45) (x : Int) (h0 : 0 ≤ x) (h1 : x < l.length) : (l.take (x + 1).toNat).map to50 = (l.take x.toNat).map to50 ++ [(⟨(rd_T45 l x).f0, (rd_T45 l x).f1, (rd_T45 l x).f2⟩ : S50)] := by
  have hr : rd_T45 l x = l[x.toNat]'(by omega) := by
    have := rd45_get (l := l) (i := x.toNat) (by omega)
    rw [show ((x.toNat : Nat) : Int) = x by omega] at this
    exact this
  rw [show (x + 1).toNat = x.toNat + 1 by omega, List.take_succ_eq_append_getElem (by omega), List.map_append, hr]
  rfl
def RouteRight.T7 : Bool × List (List Nat × List Nat) := (true, [([], []), ([], []), ([], []), ([1, 2], [1, 2]), ([3], [3]), ([4], [4]), ([], []), ([], []), ([6, 7], [6, 7]), ([8], [8]), ([9], [9]), ([], []), ([], []), ([11, 12], [11, 12]), ([13], [13]), ([14], [14]), ([5, 10, 15], [5, 10, 15]), ([16], [16]), ([0, 17], [0, 17]), ([18, 18, 0, 1, 2, 3, 4, 5, 6, 7, 8, 9, 10, 11, 12, 13, 14, 15, 16, 17, 18], [0, 18])])
def RouteRight.B7 : List Nat := [0, 0, 0, 6, 14, 30, 0, 0, 192, 448, 960, 0, 0, 6144, 14336, 30720, 65534, 131070, 262143, 524287]
theorem RouteRight.tab7 : rtab .any (opsOf Try.f8 7) = RouteRight.T7 := by kernel_rfl
theorem RouteRight.bits7 : waitsOk RouteRight.T7.2 RouteRight.B7 = true := by kernel_rfl
set_option maxRecDepth 100000 in
set_option maxHeartbeats 16000000 in
theorem RouteRight.calls (k : Nat) (A0_0 : Option Addr) (c0_0 : Nat) (l0_0 : List Int) (A0_1 : Option Addr) (c0_1 : Nat) (l0_1 : List S23) (a1 : Int) (a2 : Int) (a3 : Int) (A4 : Option Addr) (c4 : Nat) (l4 : List S45) (r : Bool) (w : World) (hr0_0 : Kd.C (Kd.int .i64) w A0_0 l0_0.length l0_0) (hc0_0 : l0_0.length ≤ c0_0) (hr0_1 : Kd.C k23 w A0_1 l0_1.length l0_1) (hc0_1 : l0_1.length ≤ c0_1) (hr4 : Kd.C k45 w A4 l4.length l4) (hc4 : l4.length ≤ c4) (h : (netI l0_0 l0_1 = true ∧ I64B a1 = true ∧ I64B a2 = true ∧ I64B a3 = true ∧ ∀ s ∈ l4, s.f1 ≤ 9223372036854775807) ∧ r = true) :
    Calls Try.prog 8 #[.agg #[.slice A0_0 l0_0.length c0_0, .slice A0_1 l0_1.length c0_1], .int .i64 a1, .int .i64 a2, .int .i64 a3, .slice A4 l4.length c4] w fun e w' => e = .returned (.bool r) ∧ Below w.heap.size w w' := by
  obtain ⟨⟨hI, hi1, hi2, hi3, hs⟩, rfl⟩ := h
  have HI := Aside0.mk hI
  have HS := Aside0.mk hs
  have HIS := Aside0.mk (And.intro hi1 (And.intro hi2 hi3))
  have HR0 := Aside0.mk hr0_0
  have HR1 := Aside0.mk hr0_1
  have HR4 := Aside0.mk hr4
  clear hr0_0 hr0_1 hI hr4 hs hi1 hi2 hi3
  have N0 := Aside0.mk (NetW.new A0_0 c0_0 l0_0 A0_1 c0_1 l0_1 w)
  go_enter Try.func8, Try.ntmps8
  rcases great_f HI.out with hg | ⟨hg, _⟩
  · have HG := Aside0.mk hg
    clear hg
    go_wp2_with (first | (go_at_call 32; refine (letterbaglaw33_great.calls A0_0 c0_0 l0_0 A0_1 c0_1 l0_1 true _ (Kd.C_below HR0.out N0.out.below) hc0_0 (Kd.C_below HR1.out N0.out.below) hc0_1 HG.out).mono ?_; rintro e w2 ⟨rfl, hb⟩; have N1 := Aside0.mk (N0.out.next hb); clear hb; obtain ⟨m0, m1, m2⟩ := N1.out.cells) | (go_at_call 21; refine (letterbaglaw33_awake.calls 10 true _ awake_f).mono ?_; rintro e w3 ⟨rfl, hb⟩; have NA := Aside0.mk (N1.out.next hb); clear hb))
    go_ret
    exact ⟨rfl, NA.out.below⟩
  have HG := Aside0.mk hg
  clear hg
  by_cases h20 : (20 : Int) < (l4.length : Int)
  · have d20 := decide_eq_true h20
    go_wp2_with (first | (go_at_call 32; refine (letterbaglaw33_great.calls A0_0 c0_0 l0_0 A0_1 c0_1 l0_1 false _ (Kd.C_below HR0.out N0.out.below) hc0_0 (Kd.C_below HR1.out N0.out.below) hc0_1 HG.out).mono ?_; rintro e w2 ⟨rfl, hb⟩; have N1 := Aside0.mk (N0.out.next hb); clear hb; obtain ⟨m0, m1, m2⟩ := N1.out.cells) | (go_at_call 21; refine (letterbaglaw33_awake.calls 10 true _ awake_f).mono ?_; rintro e w3 ⟨rfl, hb⟩; have NA := Aside0.mk (N1.out.next hb); clear hb))
    go_ret
    exact ⟨rfl, NA.out.below⟩
  have d20 := decide_eq_false h20
  go_wp2_with (first | (go_at_call 32; refine (letterbaglaw33_great.calls A0_0 c0_0 l0_0 A0_1 c0_1 l0_1 false _ (Kd.C_below HR0.out N0.out.below) hc0_0 (Kd.C_below HR1.out N0.out.below) hc0_1 HG.out).mono ?_; rintro e w2 ⟨rfl, hb⟩; have N1 := Aside0.mk (N0.out.next hb); clear hb; obtain ⟨m0, m1, m2⟩ := N1.out.cells))
  go_loopw [11, 12] (fun v11 v12 wr => ∃ x : Int, v12 = .int .i64 x ∧ Aside0 (0 ≤ x ∧ x ≤ l4.length) ∧ Aside0 (Kd.R k50 50 wr w.heap.size (fun _ => True) v11 ((l4.take x.toNat).map to50)) ∧ Aside0 (wr.heap[w.heap.size]? = some (.cells #[.slice A0_0 l0_0.length c0_0, .slice A0_1 l0_1.length c0_1] 29 (0, 0))) ∧ Aside0 (Below w.heap.size w wr)) (fun _ v12 _ => l4.length - (intOf v12).toNat)
  case atStart => exact ⟨0, rfl, ⟨by omega⟩, ⟨Kd.R_nil _ _ _ _ _⟩, ⟨N1.out.blk⟩, ⟨N1.out.below⟩⟩
  case round =>
    obtain ⟨x, rfl, HXX, HO_11, BK556, HB⟩ := hrel
    clear N1 m0 m1 m2
    have hx0 : 0 ≤ x := HXX.out.1
    by_cases hx : x < (l4.length : Int)
    · have hsn := to50_snoc l4 x hx0 hx
      have LMc19 : Aside0 (((l4.take x.toNat).map to50).length < 5864062014805) := ⟨by rw [List.length_map, List.length_take]; omega⟩
      obtain ⟨ml, hml⟩ : ∃ m, m = (l4.take x.toNat).map to50 := ⟨_, rfl⟩
      obtain ⟨y562, hy⟩ : ∃ y : List S50, y = ml ++ [(⟨(rd_T45 l4 x).f0, (rd_T45 l4 x).f1, (rd_T45 l4 x).f2⟩ : S50)] := ⟨_, rfl⟩
      rw [← hml] at hsn HO_11 LMc19
      rw [← hy] at hsn
      have HSN := Aside0.mk hsn
      have Ny562 := Aside0.mk hy
      clear hsn hy hml
      have c0b : decide (0 ≤ x) = true := decide_eq_true hx0
      have c1b : decide (x < (l4.length : Int)) = true := decide_eq_true hx
      have HW : Aside0 (0 ≤ x + 1 ∧ x + 1 ≤ (l4.length : Int)) := ⟨by omega⟩
      have HWW : Aside0 (wrap64 (x + 1) = x + 1) := ⟨by unfold wrap64; omega⟩
      go_upto_region 7 with fail
      have n0_ := Aside0.mk (Kd.R_drew HO_11.out)
      have n1_ := Aside0.mk (blk_drew BK556.out)
      have n2_ := Aside0.mk (below_drew1 HB.out)
      clear HO_11
      clear BK556
      clear HB
      have HO_11 := n0_
      have BK556 := n1_
      have HB := n2_
      clear n0_ n1_ n2_
      have p559 : 0 ≤ (x : Int) := of_decide_eq_true (by first | (with_reducible assumption) | assumption)
      have q559 : x < (l4.length : Int) := of_decide_eq_true (by first | (with_reducible assumption) | assumption)
      obtain ⟨ad559, e559, hx559_0, hx559_1, hx559_2⟩ := at_T45 HR4.out x p559 q559
      have hw559_2 := hx559_2
      have hw559_1 := hx559_1
      have hw559_0 := hx559_0
      cases e559
      replace hx559_0 := (HB.out.cell (World.block_lt_of_cell? w _ hx559_0)).trans hx559_0
      replace hx559_1 := (HB.out.cell (World.block_lt_of_cell? w _ hx559_1)).trans hx559_1
      replace hx559_2 := (HB.out.cell (World.block_lt_of_cell? w _ hx559_2)).trans hx559_2
      replace p559 := eq_true p559
      replace q559 := eq_true q559
      have p560 : 0 ≤ (x : Int) := of_decide_eq_true (by first | (with_reducible assumption) | assumption)
      have q560 : x < (l4.length : Int) := of_decide_eq_true (by first | (with_reducible assumption) | assumption)
      obtain ⟨ad560, e560, hx560_0, hx560_1, hx560_2⟩ := at_T45 HR4.out x p560 q560
      have hw560_2 := hx560_2
      have hw560_1 := hx560_1
      have hw560_0 := hx560_0
      obtain rfl : ad559 = ad560 := (by injection e560)
      replace hx560_0 := (HB.out.cell (World.block_lt_of_cell? w _ hx560_0)).trans hx560_0
      replace hx560_1 := (HB.out.cell (World.block_lt_of_cell? w _ hx560_1)).trans hx560_1
      replace hx560_2 := (HB.out.cell (World.block_lt_of_cell? w _ hx560_2)).trans hx560_2
      replace p560 := eq_true p560
      replace q560 := eq_true q560
      have p561 : 0 ≤ (x : Int) := of_decide_eq_true (by first | (with_reducible assumption) | assumption)
      have q561 : x < (l4.length : Int) := of_decide_eq_true (by first | (with_reducible assumption) | assumption)
      obtain ⟨ad561, e561, hx561_0, hx561_1, hx561_2⟩ := at_T45 HR4.out x p561 q561
      have hw561_2 := hx561_2
      have hw561_1 := hx561_1
      have hw561_0 := hx561_0
      obtain rfl : ad559 = ad561 := (by injection e561)
      replace hx561_0 := (HB.out.cell (World.block_lt_of_cell? w _ hx561_0)).trans hx561_0
      replace hx561_1 := (HB.out.cell (World.block_lt_of_cell? w _ hx561_1)).trans hx561_1
      replace hx561_2 := (HB.out.cell (World.block_lt_of_cell? w _ hx561_2)).trans hx561_2
      replace p561 := eq_true p561
      replace q561 := eq_true q561
      refine start_ (n := 20) (S := fun w' => w'.cell? (ad559.add ((x).toNat * 3)) = some (.int .i64 ((rd_T45 l4 x).f0)) ∧ w'.cell? ⟨(ad559.add ((x).toNat * 3)).block, (ad559.add ((x).toNat * 3)).off + 1, none⟩ = some (.int .i64 ((rd_T45 l4 x).f1)) ∧ w'.cell? ⟨(ad559.add ((x).toNat * 3)).block, (ad559.add ((x).toNat * 3)).off + 2, none⟩ = some (.int .i64 ((rd_T45 l4 x).f2)) ∧ w'.cell? (ad559.add ((x).toNat * 3)) = some (.int .i64 ((rd_T45 l4 x).f0)) ∧ w'.cell? ⟨(ad559.add ((x).toNat * 3)).block, (ad559.add ((x).toNat * 3)).off + 1, none⟩ = some (.int .i64 ((rd_T45 l4 x).f1)) ∧ w'.cell? ⟨(ad559.add ((x).toNat * 3)).block, (ad559.add ((x).toNat * 3)).off + 2, none⟩ = some (.int .i64 ((rd_T45 l4 x).f2)) ∧ w'.cell? (ad559.add ((x).toNat * 3)) = some (.int .i64 ((rd_T45 l4 x).f0)) ∧ w'.cell? ⟨(ad559.add ((x).toNat * 3)).block, (ad559.add ((x).toNat * 3)).off + 1, none⟩ = some (.int .i64 ((rd_T45 l4 x).f1)) ∧ w'.cell? ⟨(ad559.add ((x).toNat * 3)).block, (ad559.add ((x).toNat * 3)).off + 2, none⟩ = some (.int .i64 ((rd_T45 l4 x).f2))) (ds := []) #[false, false, false, false, false, false, false, false, false, false, false, false, false, false, false, false, false, false, false, false] (by kernel_rfl) rfl rfl ⟨((HB.out.cell (World.block_lt_of_cell? w _ hw559_0)).trans hw559_0), ((HB.out.cell (World.block_lt_of_cell? w _ hw559_1)).trans hw559_1), ((HB.out.cell (World.block_lt_of_cell? w _ hw559_2)).trans hw559_2), ((HB.out.cell (World.block_lt_of_cell? w _ hw560_0)).trans hw560_0), ((HB.out.cell (World.block_lt_of_cell? w _ hw560_1)).trans hw560_1), ((HB.out.cell (World.block_lt_of_cell? w _ hw560_2)).trans hw560_2), ((HB.out.cell (World.block_lt_of_cell? w _ hw561_0)).trans hw561_0), ((HB.out.cell (World.block_lt_of_cell? w _ hw561_1)).trans hw561_1), ((HB.out.cell (World.block_lt_of_cell? w _ hw561_2)).trans hw561_2)⟩ (fun hHeld => ?_); refine with_tabW RouteRight.tab7 RouteRight.bits7 (fun HT_ HW_ => ?_)
      generalize wr.drew = w20 at HO_11 BK556 HB hx559_0 hx559_1 hx559_2 hx560_0 hx560_1 hx560_2 hx561_0 hx561_1 hx561_2 hHeld ⊢
      refine pure_ (i := 0) (N := some 27) (v := ?_) (a' := ?_) #[true, false, false, false, false, false, false, false, false, false, false, false, false, false, false, false, false, false, false, false] rfl rfl (any_of HT_.out (by kernel_rfl)) (fun _ _ _ h => h) (Or.inl ⟨by rfl, ?_⟩) ?_ ?_
      rotate_left
      · intro w'
        go_simp
        with_reducible rfl
      rotate_left
      · simp only [Act.put, List.setIfInBounds_toArray, List.set_cons_zero, List.set_cons_succ, i64_w, i32_w]
        rfl
      refine pure_ (i := 1) (N := some 28) (v := ?_) (a' := ?_) #[true, true, false, false, false, false, false, false, false, false, false, false, false, false, false, false, false, false, false, false] rfl rfl (any_of HT_.out (by kernel_rfl)) (fun _ _ _ h => h) (Or.inl ⟨by rfl, ?_⟩) ?_ ?_
      rotate_left
      · intro w'
        go_simp
        with_reducible rfl
      rotate_left
      · simp only [Act.put, List.setIfInBounds_toArray, List.set_cons_zero, List.set_cons_succ, i64_w, i32_w]
        rfl
      refine pure_ (i := 2) (N := some 29) (v := ?_) (a' := ?_) #[true, true, true, false, false, false, false, false, false, false, false, false, false, false, false, false, false, false, false, false] rfl rfl (any_of HT_.out (by kernel_rfl)) (fun _ _ _ h => h) (Or.inl ⟨by rfl, ?_⟩) ?_ ?_
      rotate_left
      · intro w'
        go_simp
        with_reducible rfl
      rotate_left
      · simp only [Act.put, List.setIfInBounds_toArray, List.set_cons_zero, List.set_cons_succ, i64_w, i32_w]
        rfl
      refine pure_ (i := 3) (N := some 30) (v := ?_) (a' := ?_) #[true, true, true, true, false, false, false, false, false, false, false, false, false, false, false, false, false, false, false, false] rfl rfl (any_of HT_.out (by kernel_rfl)) (fun _ _ _ h => h) (Or.inl ⟨by rfl, ?_⟩) ?_ ?_
      rotate_left
      · intro w'
        go_simp
        with_reducible rfl
      rotate_left
      · simp only [Act.put, List.setIfInBounds_toArray, List.set_cons_zero, List.set_cons_succ, i64_w, i32_w]
        rfl
      refine pure_ (i := 4) (N := some 31) (v := ?_) (a' := ?_) #[true, true, true, true, true, false, false, false, false, false, false, false, false, false, false, false, false, false, false, false] rfl rfl (any_of HT_.out (by kernel_rfl)) (fun _ _ _ h => h) (Or.inl ⟨by rfl, ?_⟩) ?_ ?_
      rotate_left
      · intro w'
        go_simp
        with_reducible rfl
      rotate_left
      · simp only [Act.put, List.setIfInBounds_toArray, List.set_cons_zero, List.set_cons_succ, i64_w, i32_w]
        rfl
      refine pure_ (i := 6) (N := some 33) (v := ?_) (a' := ?_) #[true, true, true, true, true, false, true, false, false, false, false, false, false, false, false, false, false, false, false, false] rfl rfl (any_of HT_.out (by kernel_rfl)) (fun _ _ _ h => h) (Or.inl ⟨by rfl, ?_⟩) ?_ ?_
      rotate_left
      · intro w'
        go_simp
        with_reducible rfl
      rotate_left
      · simp only [Act.put, List.setIfInBounds_toArray, List.set_cons_zero, List.set_cons_succ, i64_w, i32_w]
        rfl
      refine pure_ (i := 7) (N := some 34) (v := ?_) (a' := ?_) #[true, true, true, true, true, false, true, true, false, false, false, false, false, false, false, false, false, false, false, false] rfl rfl (any_of HT_.out (by kernel_rfl)) (fun _ _ _ h => h) (Or.inl ⟨by rfl, ?_⟩) ?_ ?_
      rotate_left
      · intro w'
        go_simp
        with_reducible rfl
      rotate_left
      · simp only [Act.put, List.setIfInBounds_toArray, List.set_cons_zero, List.set_cons_succ, i64_w, i32_w]
        rfl
      refine pure_ (i := 8) (N := some 35) (v := ?_) (a' := ?_) #[true, true, true, true, true, false, true, true, true, false, false, false, false, false, false, false, false, false, false, false] rfl rfl (any_of HT_.out (by kernel_rfl)) (fun _ _ _ h => h) (Or.inl ⟨by rfl, ?_⟩) ?_ ?_
      rotate_left
      · intro w'
        go_simp
        with_reducible rfl
      rotate_left
      · simp only [Act.put, List.setIfInBounds_toArray, List.set_cons_zero, List.set_cons_succ, i64_w, i32_w]
        rfl
      refine pure_ (i := 9) (N := some 36) (v := ?_) (a' := ?_) #[true, true, true, true, true, false, true, true, true, true, false, false, false, false, false, false, false, false, false, false] rfl rfl (any_of HT_.out (by kernel_rfl)) (fun _ _ _ h => h) (Or.inl ⟨by rfl, ?_⟩) ?_ ?_
      rotate_left
      · intro w'
        go_simp
        with_reducible rfl
      rotate_left
      · simp only [Act.put, List.setIfInBounds_toArray, List.set_cons_zero, List.set_cons_succ, i64_w, i32_w]
        rfl
      refine pure_ (i := 11) (N := some 38) (v := ?_) (a' := ?_) #[true, true, true, true, true, false, true, true, true, true, false, true, false, false, false, false, false, false, false, false] rfl rfl (any_of HT_.out (by kernel_rfl)) (fun _ _ _ h => h) (Or.inl ⟨by rfl, ?_⟩) ?_ ?_
      rotate_left
      · intro w'
        go_simp
        with_reducible rfl
      rotate_left
      · simp only [Act.put, List.setIfInBounds_toArray, List.set_cons_zero, List.set_cons_succ, i64_w, i32_w]
        rfl
      refine pure_ (i := 12) (N := some 39) (v := ?_) (a' := ?_) #[true, true, true, true, true, false, true, true, true, true, false, true, true, false, false, false, false, false, false, false] rfl rfl (any_of HT_.out (by kernel_rfl)) (fun _ _ _ h => h) (Or.inl ⟨by rfl, ?_⟩) ?_ ?_
      rotate_left
      · intro w'
        go_simp
        with_reducible rfl
      rotate_left
      · simp only [Act.put, List.setIfInBounds_toArray, List.set_cons_zero, List.set_cons_succ, i64_w, i32_w]
        rfl
      refine pure_ (i := 13) (N := some 40) (v := ?_) (a' := ?_) #[true, true, true, true, true, false, true, true, true, true, false, true, true, true, false, false, false, false, false, false] rfl rfl (any_of HT_.out (by kernel_rfl)) (fun _ _ _ h => h) (Or.inl ⟨by rfl, ?_⟩) ?_ ?_
      rotate_left
      · intro w'
        go_simp
        with_reducible rfl
      rotate_left
      · simp only [Act.put, List.setIfInBounds_toArray, List.set_cons_zero, List.set_cons_succ, i64_w, i32_w]
        rfl
      refine pure_ (i := 14) (N := some 41) (v := ?_) (a' := ?_) #[true, true, true, true, true, false, true, true, true, true, false, true, true, true, true, false, false, false, false, false] rfl rfl (any_of HT_.out (by kernel_rfl)) (fun _ _ _ h => h) (Or.inl ⟨by rfl, ?_⟩) ?_ ?_
      rotate_left
      · intro w'
        go_simp
        with_reducible rfl
      rotate_left
      · simp only [Act.put, List.setIfInBounds_toArray, List.set_cons_zero, List.set_cons_succ, i64_w, i32_w]
        rfl
      refine take_ (i := 5) (N := some 32) (v := ?_) (a' := ?_) #[true, true, true, true, true, true, true, true, true, true, false, true, true, true, true, false, false, false, false, false] rfl rfl (take_ofW HT_.out HW_.out (by kernel_rfl)) (fun _ _ _ h => h) (Or.inl ⟨by rfl, ?_⟩) hHeld ?_ ?_
      rotate_left
      · rintro w' ⟨s0, s1, s2, s3, s4, s5, s6, s7, s8⟩
        go_simp
        with_reducible rfl
      rotate_left
      · simp only [Act.put, List.setIfInBounds_toArray, List.set_cons_zero, List.set_cons_succ, i64_w, i32_w]
        rfl
      refine take_ (i := 10) (N := some 37) (v := ?_) (a' := ?_) #[true, true, true, true, true, true, true, true, true, true, true, true, true, true, true, false, false, false, false, false] rfl rfl (take_ofW HT_.out HW_.out (by kernel_rfl)) (fun _ _ _ h => h) (Or.inl ⟨by rfl, ?_⟩) hHeld ?_ ?_
      rotate_left
      · rintro w' ⟨s0, s1, s2, s3, s4, s5, s6, s7, s8⟩
        go_simp
        with_reducible rfl
      rotate_left
      · simp only [Act.put, List.setIfInBounds_toArray, List.set_cons_zero, List.set_cons_succ, i64_w, i32_w]
        rfl
      refine take_ (i := 15) (N := some 42) (v := ?_) (a' := ?_) #[true, true, true, true, true, true, true, true, true, true, true, true, true, true, true, true, false, false, false, false] rfl rfl (take_ofW HT_.out HW_.out (by kernel_rfl)) (fun _ _ _ h => h) (Or.inl ⟨by rfl, ?_⟩) hHeld ?_ ?_
      rotate_left
      · rintro w' ⟨s0, s1, s2, s3, s4, s5, s6, s7, s8⟩
        go_simp
        with_reducible rfl
      rotate_left
      · simp only [Act.put, List.setIfInBounds_toArray, List.set_cons_zero, List.set_cons_succ, i64_w, i32_w]
        rfl
      refine pure_ (i := 16) (N := some 43) (v := ?_) (a' := ?_) #[true, true, true, true, true, true, true, true, true, true, true, true, true, true, true, true, true, false, false, false] rfl rfl (any_of HT_.out (by kernel_rfl)) (fun _ _ _ h => h) (Or.inl ⟨by rfl, ?_⟩) ?_ ?_
      rotate_left
      · intro w'
        go_simp
        with_reducible rfl
      rotate_left
      · simp only [Act.put, List.setIfInBounds_toArray, List.set_cons_zero, List.set_cons_succ, i64_w, i32_w]
        rfl
      refine one_ (i := 17) (N := some 44) #[true, true, true, true, true, true, true, true, true, true, true, true, true, true, true, true, true, true, false, false] rfl rfl (one_of HT_.out (by kernel_rfl)) (by decide) (fun K hK => ?_)
      refine value_ (w1 := ?_) (v := ?_) (by rfl) rfl ?_ ?_
      rotate_left 2
      · go_simp
        constructor
        · rfl
        · rfl
      refine hK.out _ _ ⟨(World.cell?_alloc_lt _ _ _ (World.block_lt_of_cell? _ _ (((HB.out.cell (World.block_lt_of_cell? w _ hw559_0)).trans hw559_0)))).trans (((HB.out.cell (World.block_lt_of_cell? w _ hw559_0)).trans hw559_0)), (World.cell?_alloc_lt _ _ _ (World.block_lt_of_cell? _ _ (((HB.out.cell (World.block_lt_of_cell? w _ hw559_1)).trans hw559_1)))).trans (((HB.out.cell (World.block_lt_of_cell? w _ hw559_1)).trans hw559_1)), (World.cell?_alloc_lt _ _ _ (World.block_lt_of_cell? _ _ (((HB.out.cell (World.block_lt_of_cell? w _ hw559_2)).trans hw559_2)))).trans (((HB.out.cell (World.block_lt_of_cell? w _ hw559_2)).trans hw559_2)), (World.cell?_alloc_lt _ _ _ (World.block_lt_of_cell? _ _ (((HB.out.cell (World.block_lt_of_cell? w _ hw560_0)).trans hw560_0)))).trans (((HB.out.cell (World.block_lt_of_cell? w _ hw560_0)).trans hw560_0)), (World.cell?_alloc_lt _ _ _ (World.block_lt_of_cell? _ _ (((HB.out.cell (World.block_lt_of_cell? w _ hw560_1)).trans hw560_1)))).trans (((HB.out.cell (World.block_lt_of_cell? w _ hw560_1)).trans hw560_1)), (World.cell?_alloc_lt _ _ _ (World.block_lt_of_cell? _ _ (((HB.out.cell (World.block_lt_of_cell? w _ hw560_2)).trans hw560_2)))).trans (((HB.out.cell (World.block_lt_of_cell? w _ hw560_2)).trans hw560_2)), (World.cell?_alloc_lt _ _ _ (World.block_lt_of_cell? _ _ (((HB.out.cell (World.block_lt_of_cell? w _ hw561_0)).trans hw561_0)))).trans (((HB.out.cell (World.block_lt_of_cell? w _ hw561_0)).trans hw561_0)), (World.cell?_alloc_lt _ _ _ (World.block_lt_of_cell? _ _ (((HB.out.cell (World.block_lt_of_cell? w _ hw561_1)).trans hw561_1)))).trans (((HB.out.cell (World.block_lt_of_cell? w _ hw561_1)).trans hw561_1)), (World.cell?_alloc_lt _ _ _ (World.block_lt_of_cell? _ _ (((HB.out.cell (World.block_lt_of_cell? w _ hw561_2)).trans hw561_2)))).trans (((HB.out.cell (World.block_lt_of_cell? w _ hw561_2)).trans hw561_2))⟩ (fun hHeld => ?_)
      clear hK K
      refine norm_ (a' := ?_) ?_ ?_
      rotate_left
      · show Act.put _ (some 44) _ = _
        simp only [Act.put, List.setIfInBounds_toArray, List.set_cons_zero, List.set_cons_succ, i64_w, i32_w]
        rfl
      refine one_ (i := 18) (N := some 45) #[true, true, true, true, true, true, true, true, true, true, true, true, true, true, true, true, true, true, true, false] rfl rfl (one_of HT_.out (by kernel_rfl)) (by decide) (fun K hK => ?_)
      refine Kd.R_append_step k50 (w0 := w) w.heap.size (by rfl) (.tmp 27) (.tmp 44) 49 50 (.agg #[(.int .i64 0), (.int .i64 0), (.int .i64 0)]) 24 rfl Try.underlying49 info50 rfl (by decide) (by omega) u11 ml (⟨(rd_T45 l4 x).f0, (rd_T45 l4 x).f1, (rd_T45 l4 x).f2⟩ : S50) [.int .i64 ((rd_T45 l4 x).f0), .int .i64 ((rd_T45 l4 x).f1), .int .i64 ((rd_T45 l4 x).f2)] (fun _ => True) (fun _ => False) rfl rfl ?aP (fun _ hk => hk.elim) ?aF ?aO ?aB ?aS ?aL ?_
      (case aP => exact k50_mkM _ _ _ (⟨(rd_T45 l4 x).f0, (rd_T45 l4 x).f1, (rd_T45 l4 x).f2⟩ : S50))
      (case aB => exact (by repeat (first | (with_reducible first | exact HB.out | apply below_alloc | apply pw_below_drewN | apply below_drew1 | refine below_set ?_ (Nat.le_refl _)) | exact HB.out)))
      (case aF => exact (fun _ _ => trivial))
      (case aO => exact (by (with_reducible repeat (first | apply Kd.R_alloc | apply Kd.R_drewN | apply Kd.R_drew)); exact HO_11.out))
      (case aS => exact (below_size (by repeat (first | (with_reducible first | exact HB.out | apply below_alloc | apply pw_below_drewN | apply below_drew1 | refine below_set ?_ (Nat.le_refl _)) | exact HB.out))))
      (case aL => have := LMc19.out; omega)
      intro v563 w21 ho hb hg hat
      rw [← Ny562.out] at ho
      have n0_ := Aside0.mk (blk_grown (g := w.heap.size) (o := .cells #[.slice A0_0 l0_0.length c0_0, .slice A0_1 l0_1.length c0_1] 29 (0, 0)) (by (with_reducible repeat (first | refine blk_drewN ?_ _ | refine blk_drew ?_ | refine blk_alloc ?_ _)); exact BK556.out) hg (Kd.R_ne HO_11.out BK556.out (by decide)))
      have n1_ := Aside0.mk (hb)
      have n2_ := Aside0.mk (ho)
      clear BK556
      clear HB
      clear HO_11
      have BK556 := n0_
      have HB := n1_
      have HO564 := n2_
      clear n0_ n1_ n2_
      clear ho hb hg hat
      refine hK.out _ _ ⟨((HB.out.cell (World.block_lt_of_cell? w _ hw559_0)).trans hw559_0), ((HB.out.cell (World.block_lt_of_cell? w _ hw559_1)).trans hw559_1), ((HB.out.cell (World.block_lt_of_cell? w _ hw559_2)).trans hw559_2), ((HB.out.cell (World.block_lt_of_cell? w _ hw560_0)).trans hw560_0), ((HB.out.cell (World.block_lt_of_cell? w _ hw560_1)).trans hw560_1), ((HB.out.cell (World.block_lt_of_cell? w _ hw560_2)).trans hw560_2), ((HB.out.cell (World.block_lt_of_cell? w _ hw561_0)).trans hw561_0), ((HB.out.cell (World.block_lt_of_cell? w _ hw561_1)).trans hw561_1), ((HB.out.cell (World.block_lt_of_cell? w _ hw561_2)).trans hw561_2)⟩ (fun hHeld => ?_)
      clear hK K
      refine norm_ (a' := ?_) ?_ ?_
      rotate_left
      · show Act.put _ (some 45) _ = _
        simp only [Act.put, List.setIfInBounds_toArray, List.set_cons_zero, List.set_cons_succ, i64_w, i32_w]
        rfl
      refine pure_ (i := 19) (N := some 11) (v := ?_) (a' := ?_) #[true, true, true, true, true, true, true, true, true, true, true, true, true, true, true, true, true, true, true, true] rfl rfl (any_of HT_.out (by kernel_rfl)) (fun _ _ _ h => h) (Or.inl ⟨by rfl, ?_⟩) ?_ ?_
      rotate_left
      · intro w'
        go_simp
        with_reducible rfl
      rotate_left
      · simp only [Act.put, List.setIfInBounds_toArray, List.set_cons_zero, List.set_cons_succ, i64_w, i32_w]
        rfl
      refine done_ (done_of HT_.out (by kernel_rfl)) ?_
      try go_wp2
      go_roundw
      case rel => exact ⟨x + 1, by first | rfl | go_num | (rw [HWW.out]) | (simp only [HWW.out]), HW, ⟨by rw [HSN.out]; (with_reducible repeat (first | apply Kd.R_alloc | apply Kd.R_drewN | apply Kd.R_drew)); exact HO564.out⟩, ⟨by (with_reducible repeat (first | refine blk_drewN ?_ _ | refine blk_drew ?_ | refine blk_alloc ?_ _)); exact BK556.out⟩, ⟨by repeat (first | (with_reducible first | exact HB.out | apply below_alloc | apply pw_below_drewN | apply below_drew1) | exact HB.out)⟩⟩
      case measure =>
        have := HW.out
        simp [intOf, HWW.out]
        try omega
    · obtain rfl : x = (l4.length : Int) := by have := HXX.out; omega
      have hm : (l4.take (l4.length : Int).toNat).map to50 = l4.map to50 := by rw [Int.toNat_natCast, List.take_length]
      rw [hm] at HO_11
      obtain ⟨Am, cm, eA⟩ := Kd.R_slice HO_11.out
      subst eA
      rw [show (l4.map to50).length = l4.length from List.length_map ..] at HO_11
      have NR : Aside0 (NetW A0_0 c0_0 l0_0 A0_1 c0_1 l0_1 w wr) := ⟨⟨BK556.out, HB.out⟩⟩
      obtain ⟨r0, r1, r2⟩ := NR.out.cells
      obtain ⟨vv, hvv⟩ : ∃ v, v = (if (netOf l0_0 l0_1).openErr a3 [a1, a2] = 0 then Net.rightGo (netOf l0_0 l0_1) a2 a1 a3 (l4.map st3) else false) := ⟨_, rfl⟩
      have HF : Aside0 (route_Right.f l0_0 l0_1 a1 a2 a3 l4 = some vv) := ⟨by
        unfold route_Right.f
        rw [if_pos ⟨HI.out, HIS.out⟩, hvv]
        rfl⟩
      have H33 : Aside0 ((if (netOf l0_0 l0_1).openErr a3 [a1, a2] = 0 then Net.rightGo (netOf l0_0 l0_1) a2 a1 a3 ((l4.map to50).map st50) else false) = vv) := ⟨by rw [hvv, List.map_map]; rfl⟩
      have KM := Aside0.mk (Kd.R_reads' HO_11.out).2.2
      have hcm : Aside0 ((l4.map to50).length ≤ cm) := ⟨by rw [List.length_map]; exact (Kd.R_reads' HO_11.out).2.1⟩
      have HS5 : Aside0 (∀ s ∈ l4.map to50, s.f1 ≤ 9223372036854775807) := ⟨fun s h => by obtain ⟨s', h1, rfl⟩ := List.mem_map.1 h; exact HS.out s' h1⟩
      obtain ⟨m5, hm5⟩ : ∃ m, m = l4.map to50 := ⟨_, rfl⟩
      have hl5 : m5.length = l4.length := by rw [hm5, List.length_map]
      rw [← hm5] at KM hcm HS5 H33
      have HL5 := Aside0.mk hl5
      clear hvv hm5 hl5 hm HO_11
      have dvv : (vv == vv) = true := by simp
      go_wp2
      go_region_held3 (fun W' => W'.cell? ⟨w.heap.size, 0, none⟩ = some (.slice A0_0 l0_0.length c0_0) ∧ W'.cell? ⟨w.heap.size, 1, none⟩ = some (.slice A0_1 l0_1.length c0_1)) (first | (with_reducible exact ⟨i0, i1⟩) | (with_reducible exact ⟨f0, f1⟩) | (with_reducible exact ⟨z0, z1⟩) | exact ⟨r0, r1⟩) (first | (go_at_call 33; refine (route_Right.calls A0_0 c0_0 l0_0 A0_1 c0_1 l0_1 a1 a2 a3 A4 c4 l4 vv _ (Kd.C_drew (Kd.C_below HR0.out NR.out.below)) hc0_0 (Kd.C_drew (Kd.C_below HR1.out NR.out.below)) hc0_1 (Kd.C_drew (Kd.C_below HR4.out NR.out.below)) hc4 HF.out).mono ?_; rintro e w4 ⟨rfl, hb⟩; have N2 := Aside0.mk ((NR.out.next (pw_below_drewN (Below.refl _ _) 1)).next hb); have KM2 := Aside0.mk (Kd.C_below (Kd.C_drew KM.out) hb); clear hb; obtain ⟨z0, z1, z2⟩ := N2.out.cells) | (go_at_call 34; refine (ref33_Right.calls_n A0_0 c0_0 l0_0 A0_1 c0_1 l0_1 a1 a2 a3 Am cm m5 l4.length HL5.out vv _ (Kd.C_below HR0.out N2.out.below) hc0_0 (Kd.C_below HR1.out N2.out.below) hc0_1 KM2.out hcm.out ⟨HI.out, HS5.out, H33.out⟩).mono ?_; rintro e w5 ⟨rfl, hb⟩; have N3 := Aside0.mk (N2.out.next hb); clear hb; obtain ⟨f0, f1, f2⟩ := N3.out.cells) | (go_at_call 21; refine (letterbaglaw33_awake.calls 10 true _ awake_f).mono ?_; rintro e w6 ⟨rfl, hb⟩; have N4 := Aside0.mk (N3.out.next hb); clear hb; obtain ⟨i0, i1, i2⟩ := N4.out.cells))
      go_wp2
      go_ret
      exact ⟨rfl, N4.out.below⟩
end Go.Proofs.Ytdpadeklociinaa.PA
