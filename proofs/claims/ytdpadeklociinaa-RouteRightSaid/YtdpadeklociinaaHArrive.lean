import Derived.Test.YtdpadeklociinaaHOpen
import Derived.Test.YtdpadeklociinaaHTake
import Derived.Deep.RegionHeld3
set_option linter.unusedVariables false
namespace Go.Proofs.Ytdpadeklociinaa.PA
open Go.RowKit Go.Maps Go.Proofs.YtdpadeklociinaaW.PrintWords Go.Proofs.YtdpadeklociinaaW.PrintLast Go.Proofs.YtdpadeklociinaaW.PrintMore Go.Proofs.Ytdpadeklociinaa

theorem openErr_ok {l0 : List Int} {l1 : List S23} {time : Int} {ps : List Int} (h : (netOf l0 l1).openErr time ps = 0) : (netOf l0 l1).Valid ∧ (∀ p ∈ ps, p ∈ l0) ∧ 0 ≤ time ∧ time ≤ 1051898399 := by
  unfold Net.Nw.openErr at h
  by_cases e : Net.errOf (netOf l0 l1).plants (netOf l0 l1).legs = 0
  · rw [if_neg (by simp [e])] at h
    refine ⟨Net.valid_of_errOf e, ?_⟩
    split at h
    case isTrue hh =>
      simp only [Bool.and_eq_true, List.all_eq_true, decide_eq_true_eq] at hh
      exact ⟨fun p hp => by have := hh.1.1 p hp; exact List.contains_iff_mem.1 this, hh.1.2, hh.2⟩
    case isFalse => cases h
  · rw [if_pos e] at h
    exact absurd h e
theorem clone_n (A0 : Option Addr) (n c0 : Nat) (l0 : List Int) (w : World) (hn : l0.length = n) (hr0 : Kd.C (Kd.int .i64) w A0 l0.length l0) (hc0 : n ≤ c0) (h : n ≤ 1000) :
    Calls Try.prog 63 #[.slice A0 n c0] w fun e w' => ∃ v0_ : Value, e = .returned (v0_) ∧ Kd.R (Kd.int .i64) 3 w' w.heap.size (fun _ => True) v0_ l0 ∧ Below w.heap.size w w' := by
  subst hn
  exact slices_Clone_int_int.calls A0 c0 l0 l0 w hr0 hc0 (by unfold slices_Clone_int_int.f; rw [if_pos (by omega)])
set_option maxRecDepth 100000 in
set_option maxHeartbeats 4000000 in
theorem route_Arrive.calls (A0_0 : Option Addr) (c0_0 : Nat) (l0_0 : List Int) (A0_1 : Option Addr) (c0_1 : Nat) (l0_1 : List S23) (a1 : Int) (a2 : Int) (r1 : List Int) (r2 : Int) (w : World) (hr0_0 : Kd.C (Kd.int .i64) w A0_0 l0_0.length l0_0) (hc0_0 : l0_0.length ≤ c0_0) (hr0_1 : Kd.C k23 w A0_1 l0_1.length l0_1) (hc0_1 : l0_1.length ≤ c0_1) (h : route_Arrive.f l0_0 l0_1 a1 a2 = some (r1, r2)) :
    Calls Try.prog 23 #[.agg #[.slice A0_0 l0_0.length c0_0, .slice A0_1 l0_1.length c0_1], .int .i64 a1, .int .i64 a2] w fun e w' => ∃ v0_ : Value, e = .returned (.tuple #[v0_, .int .i64 r2]) ∧ Kd.R (Kd.int .i64) 3 w' w.heap.size (fun _ => True) v0_ r1 ∧ Below w.heap.size w w' := by
  unfold route_Arrive.f at h
  split at h
  case isFalse => cases h
  case isTrue hb =>
  obtain ⟨hI, hi1, hi2⟩ := hb
  have H := Aside0.mk (Option.some.inj h)
  clear h
  have HR0 := Aside0.mk hr0_0
  have HR1 := Aside0.mk hr0_1
  have HI := Aside0.mk hI
  have HI1 := Aside0.mk (I64B_iff.1 hi1)
  have HI2 := Aside0.mk (I64B_iff.1 hi2)
  clear hr0_0 hr0_1 hI hi1 hi2
  -- the world in which open is called
  obtain ⟨w1, hw1⟩ : ∃ w1, w1 = (w.alloc (.cells #[.slice A0_0 l0_0.length c0_0, .slice A0_1 l0_1.length c0_1] 29)).alloc (.cells #[.int .i64 a1] 3) := ⟨_, rfl⟩
  have B3 : Aside0 (Below w.heap.size w w1) := ⟨by rw [hw1]; exact ((Below.refl _ _).alloc (Nat.le_refl _) _).alloc (by simp) _⟩
  have HC : Aside0 (Kd.C (Kd.int .i64) w1 (some ⟨w.heap.size + 1, 0, none⟩) [a1].length [a1]) := ⟨by
    refine ⟨rfl, by simp, fun _ => ⟨_, rfl, fun j p hj => ⟨[.int .i64 p], rfl, rfl, fun i u hu => ?_⟩⟩⟩
    match j, hj with
    | 0, hj =>
      match i, hu with
      | 0, hu =>
        simp at hj hu
        subst hj hu
        have := blk_new (w.alloc (.cells #[.slice A0_0 l0_0.length c0_0, .slice A0_1 l0_1.length c0_1] 29)) (.cells #[.int .i64 a1] 3)
        rw [hw1]
        simp only [World.size_alloc] at this
        exact (blk_cell this 0).trans rfl⟩
  have HO := open.calls A0_0 c0_0 l0_0 A0_1 c0_1 l0_1 a2 (some ⟨w.heap.size + 1, 0, none⟩) 1 [a1] w1 (Kd.C_below HR0.out B3.out) hc0_0 (Kd.C_below HR1.out B3.out) hc0_1 HC.out (by simp) (by simp) HI.out (fun p hp => by simp at hp; rw [hp]; exact HI1.out) HI2.out
  rw [show [a1].length = 1 from rfl] at HO
  by_cases he : (netOf l0_0 l0_1).openErr a2 [a1] = 0
  · rw [if_pos he] at H
    obtain ⟨hv, hps, ht0, ht1⟩ := openErr_ok he
    have hp1 : a1 ∈ l0_0 := hps a1 (by simp)
    have h50 : l0_0.length ≤ 50 := hv.many
    have hnd : l0_0.Nodup := hv.nodup
    have hl200 : l0_1.length ≤ 200 := by have := hv.manyL; simpa [netOf] using this
    have HVV := Aside0.mk hv
    rw [he] at HO
    clear he hps hv
    obtain ⟨rfl, rfl⟩ : r1 = (netOf l0_0 l0_1).arriveL a1 a2 ∧ r2 = 0 := by have := H.out; simp only [Prod.mk.injEq] at this; exact ⟨this.1.symm, this.2.symm⟩
    have HOO := Aside0.mk HO
    have HIN := Aside0.mk hnd
    clear HO hnd
    go_enter Try.func23, Try.ntmps23
    go_wp2_with (first | (go_at_call 61; rw [← hw1]; refine HOO.out.mono ?_; rintro e w2 ⟨hb, er', V, rfl, rfl, h3, h4⟩; obtain ⟨bm, vl, rfl, hbm, hP, sl, s1, s2, s3⟩ := h4 rfl; obtain ⟨Av, cv, rfl⟩ := Kd.R_slice s3; have HB := Aside0.mk (below_then B3.out B3.out.size hb); have HP := Aside0.mk hP; have S1 := Aside0.mk s1; have S2 := Aside0.mk s2; have S3 := Aside0.mk s3; clear hb h3 h4 hP s1 s2 s3 hbm) | (go_at_call 62; refine (forward.calls l0_0 sl (netOf l0_0 l0_1).S (sorted_S HVV.out S1.out S2.out) bm l0_0.length l0_0.length Av cv a1 a2 _ HIN.out h50 hp1 HI1.out ht0 ht1 (legs_ok HVV.out HI.out S1.out) (by rw [S1.out.length_eq]; exact hl200) (Kd.R_reads' S3.out).2.1 (HP.out.alloc _) (Kd.C_below (Kd.R_reads' S3.out).2.2 (below_alloc (Below.refl _ _) _))).mono ?_; rintro e w3 ⟨v, rfl, k, f1, f2, f3, f4⟩; have E1 := Aside0.mk f1; have E2 := Aside0.mk f2; have E4 := Aside0.mk f4; clear f1 f2 f4))
    have hlen : ((List.range (k + 1)).map fun j => rowOf Net.enc l0_0 (Net.fwd (netOf l0_0 l0_1).S a1 a2 j)).length = k + 1 := by simp
    obtain ⟨g, cap, ev, hgb, hglt⟩ := Kd.R_form E1.out (by rw [hlen]; omega)
    subst ev
    have hel := rows_elem E1.out k (by rw [hlen]; omega)
    rw [hlen]
    have hrow : ((List.range (k + 1)).map fun j => rowOf Net.enc l0_0 (Net.fwd (netOf l0_0 l0_1).S a1 a2 j)).getD k [] = rowOf Net.enc l0_0 ((netOf l0_0 l0_1).early a1 a2) := by
      rw [List.getD_eq_getElem?_getD, List.getElem?_map, List.getElem?_range (by omega)]
      show rowOf Net.enc l0_0 (Net.fwd (netOf l0_0 l0_1).S a1 a2 k) = _
      rw [fwd_last HVV.out hp1 E4.out]
    rw [hrow] at hel
    have hlist : (netOf l0_0 l0_1).arriveL a1 a2 = (rowOf Net.enc l0_0 ((netOf l0_0 l0_1).early a1 a2)).take l0_0.length := (rowOf_take h50 _).symm
    have HL := Aside0.mk hlist
    clear hlist hrow
    obtain ⟨RL, hRL⟩ : ∃ RL, RL = rowOf Net.enc l0_0 ((netOf l0_0 l0_1).early a1 a2) := ⟨_, rfl⟩
    rw [← hRL] at HL hel
    obtain ⟨hR50, hrng⟩ := hel
    have RG := Aside0.mk hrng
    have c1 : w3.cell? ⟨w2.heap.size, 1, none⟩ = some (.int .i64 l0_0.length) := (blk_cell (blk_below (blk_new w2 _) E2.out) 1).trans rfl
    have E3 := Aside0.mk (below_then (HB.out.alloc HB.out.size _) (by have := HB.out.size; simp; omega) E2.out)
    clear hRL hrng E1 E2 S1 S2 S3 HOO
    have hn0 : (0 : Int) ≤ l0_0.length := by omega
    have hk0 : (0 : Int) ≤ k := by omega
    have hk1 : (k : Int) < ((k + 1 : Nat) : Int) := by omega
    have hk2 : (k : Int) < (k : Int) + 1 := by omega
    have hk3 : (k : Int) ≤ 50 := by omega
    have hw1 : IntKind.i64.wrap (((k + 1 : Nat) : Int) - 1) = k := by rw [IntKind.wrap_i64]; omega
    have hw2 : IntKind.i64.wrap ((k : Int) + 1 - 1) = k := by rw [IntKind.wrap_i64]; omega
    have hw3 : IntKind.i64.wrap (k : Int) = k := by rw [IntKind.wrap_i64]; omega
    have hn50 : (l0_0.length : Int) ≤ 50 := by omega
    have htl : (RL.take l0_0.length).length = l0_0.length := by rw [List.length_take]; omega
    go_region_held3 (fun W' => W'.cell? ⟨w2.heap.size, 1, none⟩ = some (.int .i64 l0_0.length)) (first | exact c1' | go_keep) (first | (go_at_call 63; refine (clone_n _ l0_0.length 50 (RL.take l0_0.length) (w3.drew) htl (take_reads (W := w3.drew) RG.out _ (by omega) hR50) (by omega) (by omega)).mono ?_; rintro e w4 ⟨v0, rfl, q1, q2⟩; have c1' : w4.cell? ⟨w2.heap.size, 1, none⟩ = some (.int .i64 l0_0.length) := (q2.cell (World.block_lt_of_cell? w3.drew _ c1)).trans c1; have Q1 := Aside0.mk q1; have Q2 := Aside0.mk q2; clear q1 q2))
    go_wp2
    go_ret2
    refine ⟨v0, rfl, ?_, below_then E3.out.drew E3.out.size Q2.out⟩
    rw [HL.out]
    exact Kd.R_lower Q1.out E3.out.size
  · rw [if_neg he] at H
    have hne : ((netOf l0_0 l0_1).openErr a2 [a1] != 0) = true := by simp [he]
    obtain ⟨er, her⟩ : ∃ er, er = (netOf l0_0 l0_1).openErr a2 [a1] := ⟨_, rfl⟩
    rw [← her] at H HO hne
    obtain ⟨rfl, rfl⟩ : r1 = [] ∧ r2 = er := by have := H.out; simp only [Prod.mk.injEq] at this; exact ⟨this.1.symm, this.2.symm⟩
    have HOO := Aside0.mk HO
    have HER := Aside0.mk (show r2 ≠ 0 by rw [her]; exact he)
    clear HO her he
    go_enter Try.func23, Try.ntmps23
    go_wp2_with (go_at_call 61; rw [← hw1]; refine HOO.out.mono ?_; rintro e w2 ⟨hb, er', V, rfl, rfl, h3, h4⟩; obtain rfl := h3 HER.out; have HB := Aside0.mk (below_then B3.out B3.out.size hb); clear hb h3 h4; unfold zeroW)
    go_ret2
    exact ⟨_, rfl, Kd.R_nil _ _ _ _ _, HB.out.alloc HB.out.size _⟩
end Go.Proofs.Ytdpadeklociinaa.PA
