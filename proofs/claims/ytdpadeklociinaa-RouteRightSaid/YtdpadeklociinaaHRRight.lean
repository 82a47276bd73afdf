import Derived.Test.YtdpadeklociinaaHArrive
import Derived.Test.YtdpadeklociinaaHFrom
import Derived.Test.YtdpadeklociinaaPAx12
set_option linter.unusedVariables false
set_option linter.unusedSimpArgs false
namespace Go.Proofs.Ytdpadeklociinaa.PA
open Go.RowKit Go.Maps Go.Proofs.YtdpadeklociinaaW.PrintWords Go.Proofs.YtdpadeklociinaaW.PrintLast Go.Proofs.YtdpadeklociinaaW.PrintMore Go.Proofs.Ytdpadeklociinaa

def findV : Option S23 → Int × Int × Int × Int × Int × Int × Int × Int × Bool
  | some x => (x.f0, x.f1, x.f2, x.f3, x.f4, x.f5, x.f6, x.f7, true)
  | none => (0, 0, 0, 0, 0, 0, 0, 0, false)
theorem find_l (id : Int) (l : List S23) (hl : l.length ≤ 1000000) : ∀ (k : Nat) (i : Nat), i ≤ l.length → l.length < k + i → network_Find.l0 k id l (l.length : Int) (i : Int) = some (findV ((l.drop i).find? fun x => decide (x.f0 = id)))
  | 0, i, h1, h2 => by omega
  | k + 1, i, h1, h2 => by
    simp only [network_Find.l0]
    by_cases hi : i < l.length
    · have hd : l.drop i = rd_T23 l i :: l.drop (i + 1) := by
        unfold rd_T23
        rw [Int.toNat_natCast, List.getD_eq_getElem?_getD, List.getElem?_eq_getElem hi]
        exact List.drop_eq_getElem_cons hi
      rw [if_pos (by omega), if_pos (by omega), if_pos (by omega), hd, List.find?_cons]
      by_cases he : (rd_T23 l i).f0 = id
      · rw [if_pos he, decide_eq_true he]
        rfl
      · rw [if_neg he, decide_eq_false he]
        have hw : wrap64 ((i : Int) + 1) = ((i + 1 : Nat) : Int) := by unfold wrap64; omega
        rw [hw]
        exact find_l id l hl k (i + 1) (by omega) (by omega)
    · have : i = l.length := by omega
      subst this
      rw [if_neg (by omega), List.drop_length]
      rfl
theorem find_of_f (id : Int) (l0 : List Int) (l : List S23) (hl : l.length ≤ 1000000) : network_Find.f (l.length + 1) l0 l id = some (findV (l.find? fun x => decide (x.f0 = id))) := by
  unfold network_Find.f
  have := find_l id l hl (l.length + 1) 0 (Nat.zero_le _) (by omega)
  simpa using this
theorem cells23' {w : World} {g : Nat} {v0 v1 v2 v3 v4 v5 v6 v7 : Value} (h : w.heap[g]? = some (.cells #[v0, v1, v2, v3, v4, v5, v6, v7] 23 (0, 0))) : w.cell? ⟨g, 0, none⟩ = some v0 ∧ w.cell? ⟨g, 1, none⟩ = some v1 ∧ w.cell? ⟨g, 2, none⟩ = some v2 ∧ w.cell? ⟨g, 3, none⟩ = some v3 ∧ w.cell? ⟨g, 4, none⟩ = some v4 ∧ w.cell? ⟨g, 5, none⟩ = some v5 ∧ w.cell? ⟨g, 6, none⟩ = some v6 ∧ w.cell? ⟨g, 7, none⟩ = some v7 :=
  ⟨(blk_cell h 0).trans rfl, (blk_cell h 1).trans rfl, (blk_cell h 2).trans rfl, (blk_cell h 3).trans rfl, (blk_cell h 4).trans rfl, (blk_cell h 5).trans rfl, (blk_cell h 6).trans rfl, (blk_cell h 7).trans rfl⟩
theorem right_day (y : Net.Leg) (s1 s2 t : Int) (h0 : 0 ≤ s1) (X : Int → Bool) :
    (match Net.onDay y (s1 / 1440) with | some d => if d = s1 ∧ d + y.mins = s2 ∧ t ≤ d - y.cut then X d else false | none => false) =
    (match Net.onDay y (wrap64 (s1.tdiv 1440)) with | some d => if d = s1 ∧ d + y.mins = s2 ∧ t ≤ d - y.cut then X d else false | none => false) := by
  rw [Int.tdiv_eq_ediv_of_nonneg h0]
  by_cases h : s1 ≤ 9223372036854775807
  · rw [show wrap64 (s1 / 1440) = s1 / 1440 by unfold wrap64; omega]
  · have h1 : Net.onDay y (s1 / 1440) = none := by
      cases ho : Net.onDay y (s1 / 1440) with
      | none => rfl
      | some d => have := Net.onDay_some ho; omega
    rw [h1]
    cases ho : Net.onDay y (wrap64 (s1 / 1440)) with
    | none => rfl
    | some d =>
      have h2 := Net.onDay_some ho
      have h3 := (Net.Leg.right_iff _).1 h2.1
      dsimp only
      rw [if_neg (by omega)]
theorem cells45 {w : World} {g : Nat} {v0 v1 v2 : Value} (h : w.heap[g]? = some (.cells #[v0, v1, v2] 45 (0, 0))) : w.cell? ⟨g, 0, none⟩ = some v0 ∧ w.cell? ⟨g, 1, none⟩ = some v1 ∧ w.cell? ⟨g, 2, none⟩ = some v2 := ⟨(blk_cell h 0).trans rfl, (blk_cell h 1).trans rfl, (blk_cell h 2).trans rfl⟩
def st3 (s : S45) : Int × Int × Int := (s.f0, s.f1, s.f2)
theorem legs_find (l0 : List Int) (l1 : List S23) (id : Int) : (netOf l0 l1).legs.find? (fun x => decide (x.id = id)) = (l1.find? fun x => decide (x.f0 = id)).map toLeg := by
  show (l1.map toLeg).find? _ = _
  rw [List.find?_map]
  rfl

set_option maxRecDepth 100000 in
set_option maxHeartbeats 4000000 in
theorem route_Right.calls (A0_0 : Option Addr) (c0_0 : Nat) (l0_0 : List Int) (A0_1 : Option Addr) (c0_1 : Nat) (l0_1 : List S23) (a1 : Int) (a2 : Int) (a3 : Int) (A4 : Option Addr) (c4 : Nat) (l4 : List S45) (r : Bool) (w : World) (hr0_0 : Kd.C (Kd.int .i64) w A0_0 l0_0.length l0_0) (hc0_0 : l0_0.length ≤ c0_0) (hr0_1 : Kd.C k23 w A0_1 l0_1.length l0_1) (hc0_1 : l0_1.length ≤ c0_1) (hr4 : Kd.C k45 w A4 l4.length l4) (hc4 : l4.length ≤ c4) (h : route_Right.f l0_0 l0_1 a1 a2 a3 l4 = some r) :
    Calls Try.prog 33 #[.agg #[.slice A0_0 l0_0.length c0_0, .slice A0_1 l0_1.length c0_1], .int .i64 a1, .int .i64 a2, .int .i64 a3, .slice A4 l4.length c4] w fun e w' => e = .returned (.bool r) ∧ Below w.heap.size w w' := by
  unfold route_Right.f at h
  split at h
  case isFalse => cases h
  case isTrue hb =>
  obtain ⟨hI, hi1, hi2, hi3⟩ := hb
  have H := Aside0.mk (Option.some.inj h)
  clear h
  have HR0 := Aside0.mk hr0_0
  have HR1 := Aside0.mk hr0_1
  have HI := Aside0.mk hI
  have hIn := hI
  have HI1 := Aside0.mk (I64B_iff.1 hi1)
  have HI2 := Aside0.mk (I64B_iff.1 hi2)
  have HI3 := Aside0.mk (I64B_iff.1 hi3)
  have HR4 := Aside0.mk hr4
  clear hr0_0 hr0_1 hr4 hI hi1 hi2 hi3
  -- the world in which open is called
  obtain ⟨w1, hw1⟩ : ∃ w1, w1 = (w.alloc (.cells #[.slice A0_0 l0_0.length c0_0, .slice A0_1 l0_1.length c0_1] 29)).alloc (.cells #[.int .i64 a1, .int .i64 a2] 3) := ⟨_, rfl⟩
  have B3 : Aside0 (Below w.heap.size w w1) := ⟨by rw [hw1]; exact ((Below.refl _ _).alloc (Nat.le_refl _) _).alloc (by simp) _⟩
  have HC : Aside0 (Kd.C (Kd.int .i64) w1 (some ⟨w.heap.size + 1, 0, none⟩) [a1, a2].length [a1, a2]) := ⟨by
    have hbk := blk_new (w.alloc (.cells #[.slice A0_0 l0_0.length c0_0, .slice A0_1 l0_1.length c0_1] 29)) (.cells #[.int .i64 a1, .int .i64 a2] 3)
    simp only [World.size_alloc] at hbk
    refine ⟨rfl, by simp, fun _ => ⟨_, rfl, fun j p hj => ⟨[.int .i64 p], rfl, rfl, fun i u hu => ?_⟩⟩⟩
    match j, hj with
    | 0, hj =>
      match i, hu with
      | 0, hu =>
        simp at hj hu
        subst hj hu
        rw [hw1]
        exact (blk_cell hbk 0).trans rfl
    | 1, hj =>
      match i, hu with
      | 0, hu =>
        simp at hj hu
        subst hj hu
        rw [hw1]
        exact (blk_cell hbk 1).trans rfl⟩
  have HO := open.calls A0_0 c0_0 l0_0 A0_1 c0_1 l0_1 a3 (some ⟨w.heap.size + 1, 0, none⟩) 2 [a1, a2] w1 (Kd.C_below HR0.out B3.out) hc0_0 (Kd.C_below HR1.out B3.out) hc0_1 HC.out (by simp) (by simp) HI.out (fun p hp => by
    simp at hp
    rcases hp with rfl | rfl
    · exact HI1.out
    · exact HI2.out) HI3.out
  rw [show [a1, a2].length = 2 from rfl] at HO
  by_cases he : (netOf l0_0 l0_1).openErr a3 [a1, a2] = 0
  · rw [if_pos he] at H
    obtain ⟨hv, hps, ht0, ht1⟩ := openErr_ok he
    have hl200 : l0_1.length ≤ 200 := by have := hv.manyL; simpa [netOf] using this
    have HVV := Aside0.mk hv
    rw [he] at HO
    clear he hps hv
    have HOO := Aside0.mk HO
    clear HO
    go_enter Try.func33, Try.ntmps33
    go_wp2_with (first | (go_at_call 61; rw [← hw1]; refine HOO.out.mono ?_; rintro e w2 ⟨hb, er', V, rfl, rfl, h3, h4⟩; obtain ⟨bm, vl, rfl, hbm, hP, sl, s1, s2, s3⟩ := h4 rfl; obtain ⟨Av, cv, rfl⟩ := Kd.R_slice s3; have HB := Aside0.mk (below_then B3.out B3.out.size hb); have BK := Aside0.mk (blk_below (by rw [hw1]; exact blk_alloc (blk_new w (.cells #[.slice A0_0 l0_0.length c0_0, .slice A0_1 l0_1.length c0_1] 29)) _) hb : w2.heap[w.heap.size]? = some (.cells #[.slice A0_0 l0_0.length c0_0, .slice A0_1 l0_1.length c0_1] 29 (0, 0))); clear hb h3 h4 hP s1 s2 s3 hbm))
    have H0 : Aside0 (Net.rightGo (netOf l0_0 l0_1) a2 a1 a3 (l4.map st3) = r) := ⟨H.out⟩
    have BK' := Aside0.mk (blk_alloc BK.out (.cells #[.map (some bm), .int .i64 l0_0.length, .slice Av sl.length cv] 106))
    have HB' := Aside0.mk (HB.out.alloc HB.out.size (.cells #[.map (some bm), .int .i64 l0_0.length, .slice Av sl.length cv] 106))
    have HIN := Aside0.mk hIn
    clear HOO BK HB H hIn
    go_loopw [13, 14, 35] (fun va vt vi wr => ∃ (x : Int) (p t : Int), va = .int .i64 p ∧ vt = .int .i64 t ∧ vi = .int .i64 x ∧ Aside0 (0 ≤ x ∧ x ≤ l4.length) ∧ Aside0 (Net.rightGo (netOf l0_0 l0_1) a2 p t ((l4.drop x.toNat).map st3) = r) ∧ Aside0 (wr.heap[w.heap.size]? = some (.cells #[.slice A0_0 l0_0.length c0_0, .slice A0_1 l0_1.length c0_1] 29 (0, 0))) ∧ Aside0 (Below w.heap.size w wr)) (fun _ _ vi _ => l4.length - (intOf vi).toNat)
    case atStart => exact ⟨0, a1, a3, rfl, rfl, rfl, ⟨by omega⟩, H0, BK', HB'⟩
    case round =>
      obtain ⟨x, p, t, rfl, rfl, rfl, HX, HG, BK, NB⟩ := hrel
      clear H0 BK' HB'
      have hx0 : 0 ≤ x := HX.out.1
      by_cases hx : x < (l4.length : Int)
      · obtain ⟨ad, rfl, g0, g1, g2⟩ := at_T45 HR4.out x hx0 hx
        replace g0 := (NB.out.cell (World.block_lt_of_cell? w _ g0)).trans g0
        replace g1 := (NB.out.cell (World.block_lt_of_cell? w _ g1)).trans g1
        replace g2 := (NB.out.cell (World.block_lt_of_cell? w _ g2)).trans g2
        have hxl : x.toNat < l4.length := by omega
        have hdr : l4.drop x.toNat = rd_T45 l4 x :: l4.drop (x.toNat + 1) := by
          unfold rd_T45
          rw [List.getD_eq_getElem?_getD, List.getElem?_eq_getElem hxl]
          exact List.drop_eq_getElem_cons hxl
        rw [hdr] at HG
        have hx1 : (x + 1).toNat = x.toNat + 1 := by omega
        have HX1 := Aside0.mk hx1
        clear hdr hxl hx1
        generalize rd_T45 l4 x = s at *
        obtain ⟨s0, s1, s2⟩ := s
        dsimp only at g0 g1 g2
        have HG1 : Aside0 ((match (l0_1.find? fun y => decide (y.f0 = s0)).map toLeg with
            | none => false
            | some y => if y.src = p ∧ 0 ≤ s1 then match Net.onDay y (s1 / 1440) with
                | some d => if d = s1 ∧ d + y.mins = s2 ∧ t ≤ d - y.cut then Net.rightGo (netOf l0_0 l0_1) a2 y.dst (d + y.mins) ((l4.drop (x.toNat + 1)).map st3) else false
                | none => false
              else false) = r) := ⟨by
          have := HG.out
          rw [List.map_cons] at this
          rw [← legs_find l0_0 l0_1 s0]
          exact this⟩
        clear HG
        have HFX := Aside0.mk (find_of_f s0 l0_0 l0_1 (by omega))
        have k0 : wr.cell? ⟨w.heap.size, 0, none⟩ = some (.slice A0_0 l0_0.length c0_0) := (blk_cell BK.out 0).trans rfl
        have k1 : wr.cell? ⟨w.heap.size, 1, none⟩ = some (.slice A0_1 l0_1.length c0_1) := (blk_cell BK.out 1).trans rfl
        have kl := blk_lt BK.out
        have KC0 := Aside0.mk (Kd.C_below HR0.out NB.out)
        have KC1 := Aside0.mk (Kd.C_below HR1.out NB.out)
        cases hf : l0_1.find? fun y => decide (y.f0 = s0) with
        | none =>
          rw [hf] at HG1 HFX
          obtain rfl : r = false := HG1.out.symm
          clear hf
          go_wp2_with (first | (go_at_call 35; refine (network_Find.calls (l0_1.length + 1) A0_0 c0_0 l0_0 A0_1 c0_1 l0_1 s0 0 0 0 0 0 0 0 0 false _ ?h1 hc0_0 ?h2 hc0_1 HFX.out).mono ?_; (case h1 => exact Kd.C_below KC0.out (below_alloc (Below.refl _ _) _)); (case h2 => exact Kd.C_below KC1.out (below_alloc (Below.refl _ _) _)); rintro en w3 ⟨rfl, hb⟩; have M0 := Aside0.mk (blk_below (blk_new wr (.cells #[.int .i64 s0, .int .i64 s1, .int .i64 s2] 45)) hb); have M1 := Aside0.mk (below_then (NB.out.alloc NB.out.size (.cells #[.int .i64 s0, .int .i64 s1, .int .i64 s2] 45)) ?hs hb); (case hs => (have := NB.out.size; simp; omega)); clear hb))
          go_ret
          exact ⟨rfl, M1.out.alloc M1.out.size _⟩
        | some y =>
          rw [hf] at HG1 HFX
          have hm := List.mem_of_find?_eq_some hf
          have hlI : legI y = true := by
            have h1 := HIN.out
            unfold netI at h1
            simp only [Bool.and_eq_true, List.all_eq_true] at h1
            exact h1.2 y hm
          obtain ⟨_, _, i7, i8⟩ := legI_parts hlI
          clear hf hm hlI
          obtain ⟨y0, y1, y2, y3, y4, y5, y6, y7⟩ := y
          dsimp only at i7 i8
          simp only [findV, Option.map_some, toLeg] at HFX HG1
          by_cases hy : y1 = p
          · subst hy
            by_cases hs1 : s1 < 0
            · obtain rfl : r = false := by have := HG1.out; rw [if_neg (by omega)] at this; exact this.symm
              go_wp2_with (first | (go_at_call 35; refine (network_Find.calls (l0_1.length + 1) A0_0 c0_0 l0_0 A0_1 c0_1 l0_1 s0 y0 y1 y2 y3 y4 y5 y6 y7 true _ ?h1 hc0_0 ?h2 hc0_1 HFX.out).mono ?_; (case h1 => exact Kd.C_below KC0.out (below_alloc (Below.refl _ _) _)); (case h2 => exact Kd.C_below KC1.out (below_alloc (Below.refl _ _) _)); rintro en w3 ⟨rfl, hb⟩; have M0 := Aside0.mk (blk_below (blk_new wr (.cells #[.int .i64 s0, .int .i64 s1, .int .i64 s2] 45)) hb); have M1 := Aside0.mk (below_then (NB.out.alloc NB.out.size (.cells #[.int .i64 s0, .int .i64 s1, .int .i64 s2] 45)) ?hs hb); (case hs => (have := NB.out.size; simp; omega)); have M2 := Aside0.mk (blk_below (blk_alloc BK.out (.cells #[.int .i64 s0, .int .i64 s1, .int .i64 s2] 45)) hb); clear hb; obtain ⟨v0, v1, v2⟩ := cells45 M0.out; have vl := blk_lt M0.out))
              go_ret
              exact ⟨rfl, M1.out.alloc M1.out.size _⟩
            · have hcond : y1 = y1 ∧ 0 ≤ s1 := ⟨rfl, by omega⟩
              have HG2 := HG1.out
              rw [if_pos hcond] at HG2
              have HG3 := Aside0.mk HG2
              clear HG2 HG1 hcond
              have HG4 := Aside0.mk ((right_day ⟨y0, y1, y2, y3, y4, y5, y6, y7⟩ s1 s2 t (by omega) (fun d => Net.rightGo (netOf l0_0 l0_1) a2 y2 (d + y4) ((l4.drop (x.toNat + 1)).map st3))).symm.trans HG3.out)
              have HOX := Aside0.mk (onDay_of_f y0 y1 y2 y3 y4 y5 y6 y7 (wrap64 (s1.tdiv 1440)) i7 i8)
              clear HG3
              generalize hD : wrap64 (s1.tdiv 1440) = D at HG4 HOX
              have HWX : Aside0 (wrap64 (x + 1) = x + 1) := ⟨by have := HR4.out.2.1; unfold wrap64; omega⟩
              have HXL : Aside0 (0 ≤ x + 1 ∧ x + 1 ≤ (l4.length : Int)) := ⟨by omega⟩
              cases ho : Net.onDay ⟨y0, y1, y2, y3, y4, y5, y6, y7⟩ D with
              | none =>
                rw [ho] at HG4 HOX
                obtain rfl : r = false := HG4.out.symm
                clear ho
                go_wp2_with (first | (go_at_call 35; refine (network_Find.calls (l0_1.length + 1) A0_0 c0_0 l0_0 A0_1 c0_1 l0_1 s0 y0 y1 y2 y3 y4 y5 y6 y7 true _ ?h1 hc0_0 ?h2 hc0_1 HFX.out).mono ?_; (case h1 => exact Kd.C_below KC0.out (below_alloc (Below.refl _ _) _)); (case h2 => exact Kd.C_below KC1.out (below_alloc (Below.refl _ _) _)); rintro en w3 ⟨rfl, hb⟩; have M0 := Aside0.mk (blk_below (blk_new wr (.cells #[.int .i64 s0, .int .i64 s1, .int .i64 s2] 45)) hb); have M1 := Aside0.mk (below_then (NB.out.alloc NB.out.size (.cells #[.int .i64 s0, .int .i64 s1, .int .i64 s2] 45)) ?hs hb); (case hs => (have := NB.out.size; simp; omega)); have M2 := Aside0.mk (blk_below (blk_alloc BK.out (.cells #[.int .i64 s0, .int .i64 s1, .int .i64 s2] 45)) hb); clear hb; obtain ⟨v0, v1, v2⟩ := cells45 M0.out; have vl := blk_lt M0.out) | (go_at_call 66; refine (network_On.calls 1 y0 y1 y2 y3 y4 y5 y6 y7 _ 0 0 false _ HOX.out).mono ?_; rintro en w4 ⟨rfl, hb⟩; have K0 := Aside0.mk (blk_below (blk_new w3 (.cells #[.int .i64 y0, .int .i64 y1, .int .i64 y2, .int .i64 y3, .int .i64 y4, .int .i64 y5, .int .i64 y6, .int .u8 y7] 23)) hb); have K1 := Aside0.mk (blk_below (blk_alloc M0.out (.cells #[.int .i64 y0, .int .i64 y1, .int .i64 y2, .int .i64 y3, .int .i64 y4, .int .i64 y5, .int .i64 y6, .int .u8 y7] 23)) hb); have K2 := Aside0.mk (blk_below (blk_alloc M2.out (.cells #[.int .i64 y0, .int .i64 y1, .int .i64 y2, .int .i64 y3, .int .i64 y4, .int .i64 y5, .int .i64 y6, .int .u8 y7] 23)) hb); have K3 := Aside0.mk (below_then (M1.out.alloc M1.out.size (.cells #[.int .i64 y0, .int .i64 y1, .int .i64 y2, .int .i64 y3, .int .i64 y4, .int .i64 y5, .int .i64 y6, .int .u8 y7] 23)) ?hs hb); (case hs => (have := M1.out.size; simp; omega)); clear hb; obtain ⟨u0, u1, u2⟩ := cells45 K1.out; have ul := blk_lt K1.out; have tl := blk_lt K0.out; obtain ⟨t0, t1, t2, t3, t4, t5, t6, t7⟩ := cells23' K0.out))
                go_ret
                exact ⟨rfl, K3.out.alloc K3.out.size _⟩
              | some d =>
                rw [ho] at HG4 HOX
                dsimp only at HG4 HOX
                obtain ⟨j1, j2, j3, j4, j5, j6, j7⟩ := Net.onDay_some ho
                have hrr := (Net.Leg.right_iff _).1 j1
                dsimp only at j5 j6 hrr
                have hb1 : 0 ≤ d - y5 ∧ d - y5 ≤ 1051898399 ∧ 0 ≤ d + y4 ∧ d + y4 ≤ 1051898399 := by omega
                clear ho j1 j2 j3 j4 j5 j6 j7 hrr
                have hwd : wrap64 (d - y5) = d - y5 := by unfold wrap64; omega
                by_cases h1 : d = s1
                · obtain rfl : s1 = d := h1.symm
                  clear h1
                  by_cases h2 : s1 + y4 = s2
                  · obtain rfl := h2
                    by_cases hlt : s1 - y5 < t
                    · obtain rfl : r = false := by have := HG4.out; rw [if_neg (fun h => absurd h.2.2 (by omega))] at this; exact this.symm
                      go_wp2_with (first | (go_at_call 35; refine (network_Find.calls (l0_1.length + 1) A0_0 c0_0 l0_0 A0_1 c0_1 l0_1 s0 y0 y1 y2 y3 y4 y5 y6 y7 true _ ?h1 hc0_0 ?h2 hc0_1 HFX.out).mono ?_; (case h1 => exact Kd.C_below KC0.out (below_alloc (Below.refl _ _) _)); (case h2 => exact Kd.C_below KC1.out (below_alloc (Below.refl _ _) _)); rintro en w3 ⟨rfl, hb⟩; have M0 := Aside0.mk (blk_below (blk_new wr (.cells #[.int .i64 s0, .int .i64 s1, .int .i64 (s1 + y4)] 45)) hb); have M1 := Aside0.mk (below_then (NB.out.alloc NB.out.size (.cells #[.int .i64 s0, .int .i64 s1, .int .i64 (s1 + y4)] 45)) ?hs hb); (case hs => (have := NB.out.size; simp; omega)); have M2 := Aside0.mk (blk_below (blk_alloc BK.out (.cells #[.int .i64 s0, .int .i64 s1, .int .i64 (s1 + y4)] 45)) hb); clear hb; obtain ⟨v0, v1, v2⟩ := cells45 M0.out; have vl := blk_lt M0.out) | (go_at_call 66; refine (network_On.calls 1 y0 y1 y2 y3 y4 y5 y6 y7 _ s1 (s1 + y4) true _ HOX.out).mono ?_; rintro en w4 ⟨rfl, hb⟩; have K0 := Aside0.mk (blk_below (blk_new w3 (.cells #[.int .i64 y0, .int .i64 y1, .int .i64 y2, .int .i64 y3, .int .i64 y4, .int .i64 y5, .int .i64 y6, .int .u8 y7] 23)) hb); have K1 := Aside0.mk (blk_below (blk_alloc M0.out (.cells #[.int .i64 y0, .int .i64 y1, .int .i64 y2, .int .i64 y3, .int .i64 y4, .int .i64 y5, .int .i64 y6, .int .u8 y7] 23)) hb); have K2 := Aside0.mk (blk_below (blk_alloc M2.out (.cells #[.int .i64 y0, .int .i64 y1, .int .i64 y2, .int .i64 y3, .int .i64 y4, .int .i64 y5, .int .i64 y6, .int .u8 y7] 23)) hb); have K3 := Aside0.mk (below_then (M1.out.alloc M1.out.size (.cells #[.int .i64 y0, .int .i64 y1, .int .i64 y2, .int .i64 y3, .int .i64 y4, .int .i64 y5, .int .i64 y6, .int .u8 y7] 23)) ?hs hb); (case hs => (have := M1.out.size; simp; omega)); clear hb; obtain ⟨u0, u1, u2⟩ := cells45 K1.out; have ul := blk_lt K1.out; have tl := blk_lt K0.out; obtain ⟨t0, t1, t2, t3, t4, t5, t6, t7⟩ := cells23' K0.out))
                      go_ret
                      exact ⟨rfl, K3.out.alloc K3.out.size _⟩
                    · have HG5 := HG4.out
                      rw [if_pos ⟨rfl, rfl, by omega⟩] at HG5
                      have HG6 := Aside0.mk HG5
                      have hlt' := decide_eq_false hlt
                      clear HG5 HG4
                      go_wp2_with (first | (go_at_call 35; refine (network_Find.calls (l0_1.length + 1) A0_0 c0_0 l0_0 A0_1 c0_1 l0_1 s0 y0 y1 y2 y3 y4 y5 y6 y7 true _ ?h1 hc0_0 ?h2 hc0_1 HFX.out).mono ?_; (case h1 => exact Kd.C_below KC0.out (below_alloc (Below.refl _ _) _)); (case h2 => exact Kd.C_below KC1.out (below_alloc (Below.refl _ _) _)); rintro en w3 ⟨rfl, hb⟩; have M0 := Aside0.mk (blk_below (blk_new wr (.cells #[.int .i64 s0, .int .i64 s1, .int .i64 (s1 + y4)] 45)) hb); have M1 := Aside0.mk (below_then (NB.out.alloc NB.out.size (.cells #[.int .i64 s0, .int .i64 s1, .int .i64 (s1 + y4)] 45)) ?hs hb); (case hs => (have := NB.out.size; simp; omega)); have M2 := Aside0.mk (blk_below (blk_alloc BK.out (.cells #[.int .i64 s0, .int .i64 s1, .int .i64 (s1 + y4)] 45)) hb); clear hb; obtain ⟨v0, v1, v2⟩ := cells45 M0.out; have vl := blk_lt M0.out) | (go_at_call 66; refine (network_On.calls 1 y0 y1 y2 y3 y4 y5 y6 y7 _ s1 (s1 + y4) true _ HOX.out).mono ?_; rintro en w4 ⟨rfl, hb⟩; have K0 := Aside0.mk (blk_below (blk_new w3 (.cells #[.int .i64 y0, .int .i64 y1, .int .i64 y2, .int .i64 y3, .int .i64 y4, .int .i64 y5, .int .i64 y6, .int .u8 y7] 23)) hb); have K1 := Aside0.mk (blk_below (blk_alloc M0.out (.cells #[.int .i64 y0, .int .i64 y1, .int .i64 y2, .int .i64 y3, .int .i64 y4, .int .i64 y5, .int .i64 y6, .int .u8 y7] 23)) hb); have K2 := Aside0.mk (blk_below (blk_alloc M2.out (.cells #[.int .i64 y0, .int .i64 y1, .int .i64 y2, .int .i64 y3, .int .i64 y4, .int .i64 y5, .int .i64 y6, .int .u8 y7] 23)) hb); have K3 := Aside0.mk (below_then (M1.out.alloc M1.out.size (.cells #[.int .i64 y0, .int .i64 y1, .int .i64 y2, .int .i64 y3, .int .i64 y4, .int .i64 y5, .int .i64 y6, .int .u8 y7] 23)) ?hs hb); (case hs => (have := M1.out.size; simp; omega)); clear hb; obtain ⟨u0, u1, u2⟩ := cells45 K1.out; have ul := blk_lt K1.out; have tl := blk_lt K0.out; obtain ⟨t0, t1, t2, t3, t4, t5, t6, t7⟩ := cells23' K0.out))
                      go_quiet (fail)
                      go_wp2
                      go_roundw
                      case rel =>
                        refine ⟨x + 1, y2, s1 + y4, rfl, rfl, by first | rfl | (rw [HWX.out]) | (simp only [HWX.out]), HXL, ⟨by rw [HX1.out]; exact HG6.out⟩, ⟨blk_alloc K2.out _⟩, ⟨pw_below_drewN (K3.out.alloc K3.out.size _) _⟩⟩
                      case measure =>
                        have := HXL.out
                        simp [intOf, HWX.out]
                        try omega
                  · obtain rfl : r = false := by have := HG4.out; rw [if_neg (fun h => h2 h.2.1)] at this; exact this.symm
                    go_wp2_with (first | (go_at_call 35; refine (network_Find.calls (l0_1.length + 1) A0_0 c0_0 l0_0 A0_1 c0_1 l0_1 s0 y0 y1 y2 y3 y4 y5 y6 y7 true _ ?h1 hc0_0 ?h2 hc0_1 HFX.out).mono ?_; (case h1 => exact Kd.C_below KC0.out (below_alloc (Below.refl _ _) _)); (case h2 => exact Kd.C_below KC1.out (below_alloc (Below.refl _ _) _)); rintro en w3 ⟨rfl, hb⟩; have M0 := Aside0.mk (blk_below (blk_new wr (.cells #[.int .i64 s0, .int .i64 s1, .int .i64 s2] 45)) hb); have M1 := Aside0.mk (below_then (NB.out.alloc NB.out.size (.cells #[.int .i64 s0, .int .i64 s1, .int .i64 s2] 45)) ?hs hb); (case hs => (have := NB.out.size; simp; omega)); have M2 := Aside0.mk (blk_below (blk_alloc BK.out (.cells #[.int .i64 s0, .int .i64 s1, .int .i64 s2] 45)) hb); clear hb; obtain ⟨v0, v1, v2⟩ := cells45 M0.out; have vl := blk_lt M0.out) | (go_at_call 66; refine (network_On.calls 1 y0 y1 y2 y3 y4 y5 y6 y7 _ s1 (s1 + y4) true _ HOX.out).mono ?_; rintro en w4 ⟨rfl, hb⟩; have K0 := Aside0.mk (blk_below (blk_new w3 (.cells #[.int .i64 y0, .int .i64 y1, .int .i64 y2, .int .i64 y3, .int .i64 y4, .int .i64 y5, .int .i64 y6, .int .u8 y7] 23)) hb); have K1 := Aside0.mk (blk_below (blk_alloc M0.out (.cells #[.int .i64 y0, .int .i64 y1, .int .i64 y2, .int .i64 y3, .int .i64 y4, .int .i64 y5, .int .i64 y6, .int .u8 y7] 23)) hb); have K2 := Aside0.mk (blk_below (blk_alloc M2.out (.cells #[.int .i64 y0, .int .i64 y1, .int .i64 y2, .int .i64 y3, .int .i64 y4, .int .i64 y5, .int .i64 y6, .int .u8 y7] 23)) hb); have K3 := Aside0.mk (below_then (M1.out.alloc M1.out.size (.cells #[.int .i64 y0, .int .i64 y1, .int .i64 y2, .int .i64 y3, .int .i64 y4, .int .i64 y5, .int .i64 y6, .int .u8 y7] 23)) ?hs hb); (case hs => (have := M1.out.size; simp; omega)); clear hb; obtain ⟨u0, u1, u2⟩ := cells45 K1.out; have ul := blk_lt K1.out; have tl := blk_lt K0.out; obtain ⟨t0, t1, t2, t3, t4, t5, t6, t7⟩ := cells23' K0.out))
                    go_ret
                    exact ⟨rfl, K3.out.alloc K3.out.size _⟩
                · obtain rfl : r = false := by have := HG4.out; rw [if_neg (fun h => h1 h.1)] at this; exact this.symm
                  go_wp2_with (first | (go_at_call 35; refine (network_Find.calls (l0_1.length + 1) A0_0 c0_0 l0_0 A0_1 c0_1 l0_1 s0 y0 y1 y2 y3 y4 y5 y6 y7 true _ ?h1 hc0_0 ?h2 hc0_1 HFX.out).mono ?_; (case h1 => exact Kd.C_below KC0.out (below_alloc (Below.refl _ _) _)); (case h2 => exact Kd.C_below KC1.out (below_alloc (Below.refl _ _) _)); rintro en w3 ⟨rfl, hb⟩; have M0 := Aside0.mk (blk_below (blk_new wr (.cells #[.int .i64 s0, .int .i64 s1, .int .i64 s2] 45)) hb); have M1 := Aside0.mk (below_then (NB.out.alloc NB.out.size (.cells #[.int .i64 s0, .int .i64 s1, .int .i64 s2] 45)) ?hs hb); (case hs => (have := NB.out.size; simp; omega)); have M2 := Aside0.mk (blk_below (blk_alloc BK.out (.cells #[.int .i64 s0, .int .i64 s1, .int .i64 s2] 45)) hb); clear hb; obtain ⟨v0, v1, v2⟩ := cells45 M0.out; have vl := blk_lt M0.out) | (go_at_call 66; refine (network_On.calls 1 y0 y1 y2 y3 y4 y5 y6 y7 _ d (d + y4) true _ HOX.out).mono ?_; rintro en w4 ⟨rfl, hb⟩; have K0 := Aside0.mk (blk_below (blk_new w3 (.cells #[.int .i64 y0, .int .i64 y1, .int .i64 y2, .int .i64 y3, .int .i64 y4, .int .i64 y5, .int .i64 y6, .int .u8 y7] 23)) hb); have K1 := Aside0.mk (blk_below (blk_alloc M0.out (.cells #[.int .i64 y0, .int .i64 y1, .int .i64 y2, .int .i64 y3, .int .i64 y4, .int .i64 y5, .int .i64 y6, .int .u8 y7] 23)) hb); have K2 := Aside0.mk (blk_below (blk_alloc M2.out (.cells #[.int .i64 y0, .int .i64 y1, .int .i64 y2, .int .i64 y3, .int .i64 y4, .int .i64 y5, .int .i64 y6, .int .u8 y7] 23)) hb); have K3 := Aside0.mk (below_then (M1.out.alloc M1.out.size (.cells #[.int .i64 y0, .int .i64 y1, .int .i64 y2, .int .i64 y3, .int .i64 y4, .int .i64 y5, .int .i64 y6, .int .u8 y7] 23)) ?hs hb); (case hs => (have := M1.out.size; simp; omega)); clear hb; obtain ⟨u0, u1, u2⟩ := cells45 K1.out; have ul := blk_lt K1.out; have tl := blk_lt K0.out; obtain ⟨t0, t1, t2, t3, t4, t5, t6, t7⟩ := cells23' K0.out))
                  go_ret
                  exact ⟨rfl, K3.out.alloc K3.out.size _⟩
          · obtain rfl : r = false := by have := HG1.out; rw [if_neg (fun e => hy e.1)] at this; exact this.symm
            have hne : (y1 != p) = true := by simpa using hy
            have hne' : ¬ (y1 = p) := hy
            go_wp2_with (first | (go_at_call 35; refine (network_Find.calls (l0_1.length + 1) A0_0 c0_0 l0_0 A0_1 c0_1 l0_1 s0 y0 y1 y2 y3 y4 y5 y6 y7 true _ ?h1 hc0_0 ?h2 hc0_1 HFX.out).mono ?_; (case h1 => exact Kd.C_below KC0.out (below_alloc (Below.refl _ _) _)); (case h2 => exact Kd.C_below KC1.out (below_alloc (Below.refl _ _) _)); rintro en w3 ⟨rfl, hb⟩; have M0 := Aside0.mk (blk_below (blk_new wr (.cells #[.int .i64 s0, .int .i64 s1, .int .i64 s2] 45)) hb); have M1 := Aside0.mk (below_then (NB.out.alloc NB.out.size (.cells #[.int .i64 s0, .int .i64 s1, .int .i64 s2] 45)) ?hs hb); (case hs => (have := NB.out.size; simp; omega)); have M2 := Aside0.mk (blk_below (blk_alloc BK.out (.cells #[.int .i64 s0, .int .i64 s1, .int .i64 s2] 45)) hb); clear hb; obtain ⟨v0, v1, v2⟩ := cells45 M0.out; have vl := blk_lt M0.out))
            go_ret
            exact ⟨rfl, M1.out.alloc M1.out.size _⟩
      · obtain rfl : x = (l4.length : Int) := by have := HX.out; omega
        rw [Int.toNat_natCast, List.drop_length] at HG
        have hr : decide (p = a2) = r := HG.out
        go_wp2
        go_ret
        refine ⟨?_, NB.out⟩
        rw [← hr]
        rfl
  · rw [if_neg he] at H
    have hne : ((netOf l0_0 l0_1).openErr a3 [a1, a2] != 0) = true := by simp [he]
    obtain ⟨er, her⟩ : ∃ er, er = (netOf l0_0 l0_1).openErr a3 [a1, a2] := ⟨_, rfl⟩
    rw [← her] at HO hne
    obtain rfl : r = false := H.out.symm
    have HOO := Aside0.mk HO
    have HER := Aside0.mk (show er ≠ 0 by rw [her]; exact he)
    clear HO her he
    go_enter Try.func33, Try.ntmps33
    go_wp2_with (go_at_call 61; rw [← hw1]; refine HOO.out.mono ?_; rintro e w2 ⟨hb, er', V, rfl, rfl, h3, h4⟩; obtain rfl := h3 HER.out; have HB := Aside0.mk (below_then B3.out B3.out.size hb); clear hb h3 h4; unfold zeroW)
    go_ret
    exact ⟨rfl, HB.out.alloc HB.out.size _⟩
end Go.Proofs.Ytdpadeklociinaa.PA
