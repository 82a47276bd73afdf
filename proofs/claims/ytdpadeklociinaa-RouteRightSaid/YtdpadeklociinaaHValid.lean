import Derived.Test.YtdpadeklociinaaHMap
import Derived.Test.YtdpadeklociinaaHRight
import Derived.Test.YtdpadeklociinaaNAll
set_option linter.unusedVariables false
namespace Go.Proofs.Ytdpadeklociinaa.PA
open Go.RowKit Go.Maps Go.Proofs.YtdpadeklociinaaW.PrintWords Go.Proofs.YtdpadeklociinaaW.PrintLast Go.Proofs.YtdpadeklociinaaW.PrintMore Go.Proofs.Ytdpadeklociinaa

def toLeg (x : S23) : Net.Leg := ⟨x.f0, x.f1, x.f2, x.f3, x.f4, x.f5, x.f6, x.f7⟩
/-- Each number is of its kind. -/
def I64B (p : Int) : Bool := decide (-9223372036854775808 ≤ p) && decide (p ≤ 9223372036854775807)
def legI (x : S23) : Bool := I64B x.f0 && I64B x.f1 && I64B x.f2 && I64B x.f3 && I64B x.f4 && I64B x.f5 && I64B x.f6 && decide (0 ≤ x.f7) && decide (x.f7 ≤ 255)
def netI (l : List Int) (m : List S23) : Bool := l.all I64B && m.all legI
theorem I64B_iff {p : Int} : I64B p = true ↔ I64 p := by simp [I64B, I64]

def network_Valid.f (l0 : List Int) (l1 : List S23) : Option Int := if netI l0 l1 = true then some (Net.errOf l0 (l1.map toLeg)) else none

theorem toLeg_id (l : List S23) : (l.map toLeg).map (·.id) = l.map (·.f0) := by rw [List.map_map]; rfl
theorem legs_len (l : List S23) : (l.map toLeg).length = l.length := List.length_map ..
theorem legs_getD (l : List S23) (i : Int) (h : i.toNat < l.length) : (l.map toLeg).getD i.toNat (toLeg z23) = toLeg (rd_T23 l i) := by
  unfold rd_T23
  rw [List.getD_eq_getElem?_getD, List.getD_eq_getElem?_getD, List.getElem?_map]
  rw [List.getElem?_eq_getElem h]; rfl
theorem netI_plant {l : List Int} {m : List S23} (h : netI l m = true) (i : Int) (hi : i.toNat < l.length) : I64 (rd l i) := by
  unfold netI at h
  simp only [Bool.and_eq_true, List.all_eq_true] at h
  refine I64B_iff.1 (h.1 _ ?_)
  unfold rd
  rw [List.getD_eq_getElem?_getD, List.getElem?_eq_getElem hi]
  exact List.getElem_mem hi
theorem netI_leg {l : List Int} {m : List S23} (h : netI l m = true) (i : Int) (hi : i.toNat < m.length) : legI (rd_T23 m i) = true := by
  unfold netI at h
  simp only [Bool.and_eq_true, List.all_eq_true] at h
  refine h.2 _ ?_
  unfold rd_T23
  rw [List.getD_eq_getElem?_getD, List.getElem?_eq_getElem hi]
  exact List.getElem_mem hi
/-- How often p was met (0 or 1). -/
def met (l : List Int) (p : Int) : Int := if l.contains p = true then 1 else 0
theorem met_nil (p : Int) : met [] p = 0 := rfl
theorem met_snoc (l : List Int) (x p : Int) : met (l ++ [x]) p = if p = x then 1 else met l p := by
  unfold met
  simp only [List.contains_eq_mem, List.mem_append, List.mem_singleton, decide_eq_true_eq]
  by_cases e : p = x <;> simp [e]

set_option maxHeartbeats 4000000 in
set_option maxRecDepth 100000 in
theorem network_Valid.calls (A0_0 : Option Addr) (c0_0 : Nat) (l0_0 : List Int) (A0_1 : Option Addr) (c0_1 : Nat) (l0_1 : List S23) (r : Int) (w : World) (hr0_0 : Kd.C (Kd.int .i64) w A0_0 l0_0.length l0_0) (hc0_0 : l0_0.length ≤ c0_0) (hr0_1 : Kd.C k23 w A0_1 l0_1.length l0_1) (hc0_1 : l0_1.length ≤ c0_1) (h : network_Valid.f l0_0 l0_1 = some r) :
    Calls Try.prog 55 #[.agg #[.slice A0_0 l0_0.length c0_0, .slice A0_1 l0_1.length c0_1]] w fun e w' => e = .returned (.int .i64 r) ∧ Below w.heap.size w w' := by
  have HR0 := Aside0.mk hr0_0
  have HC0 := Aside0.mk hc0_0
  have HR1 := Aside0.mk hr0_1
  have HC1 := Aside0.mk hc0_1
  clear hr0_0 hc0_0 hr0_1 hc0_1
  unfold network_Valid.f at h
  split at h
  case isFalse => cases h
  case isTrue hI =>
  have HI := Aside0.mk hI
  clear hI
  injection h with h
  have H := Aside0.mk h
  clear h
  have hmm := @run_makeMap Try.prog
  have hlen1 := legs_len l0_1
  have HL1 := Aside0.mk hlen1
  clear hlen1
  by_cases h50 : (50 : Int) < l0_0.length
  · have hm2 : Net.errOf l0_0 (l0_1.map toLeg) = 5 := by unfold Net.errOf; rw [if_pos (by omega)]
    rw [hm2] at H
    obtain rfl := H.out
    go_enter Try.func55, Try.ntmps55
    go_wp2
    go_ret
    exact ⟨rfl, (Below.refl _ _).alloc (Nat.le_refl _) _⟩
  by_cases h200 : (200 : Int) < l0_1.length
  · have hm2 : Net.errOf l0_0 (l0_1.map toLeg) = 5 := by unfold Net.errOf; rw [if_pos (by have := HL1.out; omega)]
    rw [hm2] at H
    obtain rfl := H.out
    go_enter Try.func55, Try.ntmps55
    go_wp2
    go_ret
    exact ⟨rfl, (Below.refl _ _).alloc (Nat.le_refl _) _⟩
  have hE : Net.errOf l0_0 (l0_1.map toLeg) = if Net.plantsOk l0_0 = false then 320 else if Net.legsOk l0_0 (l0_1.map toLeg) = false then 321 else 0 := by
    unfold Net.errOf; rw [if_neg (by have := HL1.out; omega)]
  have HE := Aside0.mk hE
  clear hE
  go_enter Try.func55, Try.ntmps55
  go_wp2
  go_loopw [24] (fun i wr => ∃ x : Int, i = .int .i64 x ∧ Aside0 (0 ≤ x ∧ x ≤ l0_0.length) ∧ Aside0 (Net.plantsOk (l0_0.take x.toNat) = true) ∧ Aside0 (wr.heap[w.heap.size]? = some (.cells #[.slice A0_0 l0_0.length c0_0, .slice A0_1 l0_1.length c0_1] 29 (0, 0))) ∧
      Aside0 (MapIs wr (w.heap.size + 1) x.toNat (met (l0_0.take x.toNat))) ∧ Aside0 (MapIs wr (w.heap.size + 1 + 1) 0 (fun _ => 0)) ∧ Aside0 (Below w.heap.size w wr)) (fun i _ => l0_0.length - (intOf i).toNat)
  case atStart => exact ⟨0, rfl, ⟨by omega⟩, ⟨rfl⟩, ⟨by have h := blk_alloc (blk_alloc (blk_new w (.cells #[.slice A0_0 l0_0.length c0_0, .slice A0_1 l0_1.length c0_1] 29)) (.map #[] 0)) (.map #[] 0); exact h⟩,
      ⟨by have h := (MapIs.made (w.alloc (.cells #[.slice A0_0 l0_0.length c0_0, .slice A0_1 l0_1.length c0_1] 29))).alloc (.map #[] 0); exact (by simpa using h : MapIs _ (w.heap.size + 1) 0 (fun _ => 0)).congr (fun p => (met_nil p).symm)⟩,
      ⟨by have h := MapIs.made ((w.alloc (.cells #[.slice A0_0 l0_0.length c0_0, .slice A0_1 l0_1.length c0_1] 29)).alloc (.map #[] 0)); simpa using h⟩,
      ⟨(((Below.refl _ _).alloc (Nat.le_refl _) _).alloc (by simp) _).alloc (by simp; omega) _⟩⟩
  case round =>
    obtain ⟨x, rfl, HX, HP, BK, HM1, HM2, HB⟩ := hrel
    have hcz0 : wr.cell? ⟨w.heap.size, 0, none⟩ = some (.slice A0_0 l0_0.length c0_0) := (blk_cell BK.out 0).trans rfl
    have hcz1 : wr.cell? ⟨w.heap.size, 1, none⟩ = some (.slice A0_1 l0_1.length c0_1) := (blk_cell BK.out 1).trans rfl
    have hx0 : 0 ≤ x := HX.out.1
    by_cases hx : x < (l0_0.length : Int)
    · obtain ⟨ad, rfl, hce⟩ := Kd.at_int HR0.out x hx0 hx
      replace hce := (HB.out.cell (World.block_lt_of_cell? w _ hce)).trans hce
      have hpI := Aside0.mk (netI_plant HI.out x (by omega))
      have HS := Aside0.mk (Net.take_succ_getD l0_0 0 x.toNat (by omega))
      have HR := Aside0.mk (show rd l0_0 x = l0_0.getD x.toNat 0 from rfl)
      have HF := Aside0.mk (@Net.plantsOk_false l0_0 x.toNat (by omega))
      generalize hp : rd l0_0 x = p at *
      clear hp
      by_cases hmet : (l0_0.take x.toNat).contains p = true
      · have hc0 : met (l0_0.take x.toNat) p = 1 := if_pos hmet
        have HC0 := Aside0.mk hc0
        have hret : r = 320 := by rw [← H.out, HE.out, if_pos]; apply HF.out; rw [← HR.out, hmet]; simp
        subst hret
        clear hc0 hmet
        go_wp2_with (first
          | ((with_reducible refine gate_dst (N := 30) rfl ?_); refine map_lookup rfl _ _ rfl (w.heap.size + 1) _ _ rfl HM1.out p 1 rfl hpI.out HC0.out ?_)
          | (at_mapUpdate; refine map_store rfl _ _ _ rfl (w.heap.size + 1) _ _ rfl HM1.out (by omega) p 2 rfl hpI.out rfl (by unfold I64; omega) ?_; intro w1 hm1 hg1; have HM1' := Aside0.mk hm1; have HG1 := Aside0.mk hg1; clear hm1 hg1)
          | ((with_reducible refine gate_dst (N := 34) rfl ?_); refine map_lookup rfl _ _ rfl (w.heap.size + 1) _ _ rfl HM1'.out p 2 rfl hpI.out (if_pos rfl) ?_))
        go_ret
        exact ⟨rfl, HB.out.grown HG1.out HB.out.size (fun k e => by cases e; omega)⟩
      · have hc0 : met (l0_0.take x.toNat) p = 0 := if_neg hmet
        have HC0 := Aside0.mk hc0
        have HN := Aside0.mk hmet
        clear hc0 hmet
        by_cases hr : 1 ≤ p ∧ p ≤ 999999
        · obtain ⟨hr1, hr2⟩ := hr
          have hr1' : ¬ p < 1 := by omega
          have hr2' : ¬ 999999 < p := by omega
          go_wp2_with (first
            | ((with_reducible refine gate_dst (N := 30) rfl ?_); refine map_lookup rfl _ _ rfl (w.heap.size + 1) _ _ rfl HM1.out p 0 rfl hpI.out HC0.out ?_)
            | (at_mapUpdate; refine map_store rfl _ _ _ rfl (w.heap.size + 1) _ _ rfl HM1.out (by omega) p 1 rfl hpI.out rfl (by unfold I64; omega) ?_; intro w1 hm1 hg1; have HM1' := Aside0.mk hm1; have HG1 := Aside0.mk hg1; clear hm1 hg1)
            | ((with_reducible refine gate_dst (N := 34) rfl ?_); refine map_lookup rfl _ _ rfl (w.heap.size + 1) _ _ rfl HM1'.out p 1 rfl hpI.out (if_pos rfl) ?_))
          go_roundw
          case rel =>
            have e1 : (x + 1).toNat = x.toNat + 1 := by omega
            refine ⟨x + 1, by go_num, ⟨by have := HX.out; omega⟩, ⟨?_⟩, ⟨?_⟩, ⟨?_⟩, ⟨?_⟩, ⟨?_⟩⟩
            · rw [e1, HS.out, ← HR.out]; exact (Net.plantsOk_snoc _ _).2 ⟨HP.out, by simpa using HN.out, hr1, hr2⟩
            · exact blk_grown BK.out HG1.out (by simp)
            · rw [e1]; exact HM1'.out.congr (fun q => by rw [HS.out, ← HR.out, met_snoc])
            · exact HM2.out.kept HG1.out (by simp)
            · exact HB.out.grown HG1.out HB.out.size (fun k e => by cases e; omega)
          case measure => simp [intOf]; omega
        · have hret : r = 320 := by rw [← H.out, HE.out, if_pos]; apply HF.out; rw [← HR.out]; omega
          subst hret
          by_cases hr1 : p < 1
          all_goals
            go_wp2_with (first
              | ((with_reducible refine gate_dst (N := 30) rfl ?_); refine map_lookup rfl _ _ rfl (w.heap.size + 1) _ _ rfl HM1.out p 0 rfl hpI.out HC0.out ?_)
              | (at_mapUpdate; refine map_store rfl _ _ _ rfl (w.heap.size + 1) _ _ rfl HM1.out (by omega) p 1 rfl hpI.out rfl (by unfold I64; omega) ?_; intro w1 hm1 hg1; have HM1' := Aside0.mk hm1; have HG1 := Aside0.mk hg1; clear hm1 hg1)
              | ((with_reducible refine gate_dst (N := 34) rfl ?_); refine map_lookup rfl _ _ rfl (w.heap.size + 1) _ _ rfl HM1'.out p 1 rfl hpI.out (if_pos rfl) ?_))
            go_ret
            exact ⟨rfl, HB.out.grown HG1.out HB.out.size (fun k e => by cases e; omega)⟩
    · obtain rfl : x = (l0_0.length : Int) := by have := HX.out; omega
      go_wp2
      rw [Int.toNat_natCast, List.take_length] at HP HM1
      go_loopw [48] (fun i wr => ∃ x : Int, i = .int .i64 x ∧ Aside0 (0 ≤ x ∧ x ≤ l0_1.length) ∧ Aside0 (Net.legsOk l0_0 ((l0_1.map toLeg).take x.toNat) = true) ∧ Aside0 (wr.heap[w.heap.size]? = some (.cells #[.slice A0_0 l0_0.length c0_0, .slice A0_1 l0_1.length c0_1] 29 (0, 0))) ∧
          Aside0 (MapIs wr (w.heap.size + 1) l0_0.length (met l0_0)) ∧ Aside0 (MapIs wr (w.heap.size + 1 + 1) x.toNat (met (((l0_1.map toLeg).take x.toNat).map (·.id)))) ∧ Aside0 (Below w.heap.size w wr)) (fun i _ => l0_1.length - (intOf i).toNat)
      case atStart => exact ⟨0, rfl, ⟨by omega⟩, ⟨rfl⟩, BK, HM1, ⟨HM2.out.congr (fun p => (met_nil p).symm)⟩, HB⟩
      case round =>
        clear HM1 HM2 BK HB hcz0 hcz1
        obtain ⟨x, rfl, HX, HP2, BK, HM1, HM2, HB⟩ := hrel
        have hcz0 : wr.cell? ⟨w.heap.size, 0, none⟩ = some (.slice A0_0 l0_0.length c0_0) := (blk_cell BK.out 0).trans rfl
        have hcz1 : wr.cell? ⟨w.heap.size, 1, none⟩ = some (.slice A0_1 l0_1.length c0_1) := (blk_cell BK.out 1).trans rfl
        have hx0 : 0 ≤ x := HX.out.1
        by_cases hx : x < (l0_1.length : Int)
        · obtain ⟨ad, rfl, g0, g1, g2, g3, g4, g5, g6, g7⟩ := at_T23 HR1.out x hx0 hx
          replace g0 := (HB.out.cell (World.block_lt_of_cell? w _ g0)).trans g0
          replace g1 := (HB.out.cell (World.block_lt_of_cell? w _ g1)).trans g1
          replace g2 := (HB.out.cell (World.block_lt_of_cell? w _ g2)).trans g2
          replace g3 := (HB.out.cell (World.block_lt_of_cell? w _ g3)).trans g3
          replace g4 := (HB.out.cell (World.block_lt_of_cell? w _ g4)).trans g4
          replace g5 := (HB.out.cell (World.block_lt_of_cell? w _ g5)).trans g5
          replace g6 := (HB.out.cell (World.block_lt_of_cell? w _ g6)).trans g6
          replace g7 := (HB.out.cell (World.block_lt_of_cell? w _ g7)).trans g7
          have hlg := netI_leg HI.out x (by omega)
          have HS := Aside0.mk (Net.take_succ_getD (l0_1.map toLeg) (toLeg z23) x.toNat (by have := HL1.out; omega))
          have HR := Aside0.mk (legs_getD l0_1 x (by omega))
          have HF := Aside0.mk (@Net.legsOk_false l0_0 (l0_1.map toLeg) (toLeg z23) x.toNat (by have := HL1.out; omega))
          generalize he : rd_T23 l0_1 x = e at *
          clear he
          unfold legI at hlg
          simp only [Bool.and_eq_true, decide_eq_true_eq] at hlg
          obtain ⟨⟨⟨⟨⟨⟨⟨⟨i0, i1⟩, i2⟩, i3⟩, i4⟩, i5⟩, i6⟩, i7⟩, i8⟩ := hlg
          have hI0 := I64B_iff.1 i0
          have hI1 := I64B_iff.1 i1
          have hI2 := I64B_iff.1 i2
          have HRt := Aside0.mk (show network_Right.f e.f0 e.f1 e.f2 e.f3 e.f4 e.f5 e.f6 e.f7 = some (toLeg e).right from if_pos ⟨i7, i8⟩)
          clear i0 i1 i2 i3 i4 i5 i6 i7 i8
          by_cases hmet : (((l0_1.map toLeg).take x.toNat).map (·.id)).contains e.f0 = true
          · have hc0 : met (((l0_1.map toLeg).take x.toNat).map (·.id)) e.f0 = 1 := if_pos hmet
            have HC0 := Aside0.mk hc0
            have hret : r = 321 := by rw [← H.out, HE.out, HP.out, if_neg (by simp), if_pos]; apply HF.out; rw [HR.out]; intro h; have h1 : _ = false := h.1; rw [show (toLeg e).id = e.f0 from rfl, hmet] at h1; cases h1
            subst hret
            clear hc0 hmet
            go_wp2_with (first
            | ((with_reducible refine gate_dst (N := 55) rfl ?_); refine map_lookup rfl _ _ rfl (w.heap.size + 1 + 1) _ _ rfl (HM2.out.alloc _) e.f0 1 rfl hI0 HC0.out ?_)
            | (at_mapUpdate; refine map_store rfl _ _ _ rfl (w.heap.size + 1 + 1) _ _ rfl (HM2.out.alloc _) (by omega) e.f0 2 rfl hI0 rfl (by unfold I64; omega) ?_; intro w1 hm1 hg1; have HM2' := Aside0.mk hm1; have HG1 := Aside0.mk hg1; clear hm1 hg1; have BE := Aside0.mk (blk_grown (blk_new wr (.cells #[.int .i64 e.f0, .int .i64 e.f1, .int .i64 e.f2, .int .i64 e.f3, .int .i64 e.f4, .int .i64 e.f5, .int .i64 e.f6, .int .u8 e.f7] 23)) HG1.out (by have := HM2.out.lt; simp; omega)); have hz0 := (blk_cell BE.out 0).trans rfl; have hz1 := (blk_cell BE.out 1).trans rfl; have hz2 := (blk_cell BE.out 2).trans rfl; have hz3 := (blk_cell BE.out 3).trans rfl; have hz4 := (blk_cell BE.out 4).trans rfl; have hz5 := (blk_cell BE.out 5).trans rfl; have hz6 := (blk_cell BE.out 6).trans rfl; have hz7 := (blk_cell BE.out 7).trans rfl)
            | ((with_reducible refine gate_dst (N := 60) rfl ?_); refine map_lookup rfl _ _ rfl (w.heap.size + 1 + 1) _ _ rfl HM2'.out e.f0 2 rfl hI0 (if_pos rfl) ?_))
            go_ret
            exact ⟨rfl, (HB.out.alloc HB.out.size _).grown HG1.out (by have := HB.out.size; simp; omega) (fun k e => by cases e; omega)⟩
          · have hc0 : met (((l0_1.map toLeg).take x.toNat).map (·.id)) e.f0 = 0 := if_neg hmet
            have HC0 := Aside0.mk hc0
            have HN := Aside0.mk hmet
            clear hc0 hmet
            cases hri : (toLeg e).right with
            | false =>
              have hret : r = 321 := by rw [← H.out, HE.out, HP.out, if_neg (by simp), if_pos]; apply HF.out; rw [HR.out, hri]; simp
              subst hret
              rw [hri] at HRt
              clear hri
              go_wp2_with (first
              | ((with_reducible refine gate_dst (N := 55) rfl ?_); refine map_lookup rfl _ _ rfl (w.heap.size + 1 + 1) _ _ rfl (HM2.out.alloc _) e.f0 0 rfl hI0 HC0.out ?_)
              | (at_mapUpdate; refine map_store rfl _ _ _ rfl (w.heap.size + 1 + 1) _ _ rfl (HM2.out.alloc _) (by omega) e.f0 1 rfl hI0 rfl (by unfold I64; omega) ?_; intro w1 hm1 hg1; have HM2' := Aside0.mk hm1; have HG1 := Aside0.mk hg1; clear hm1 hg1; have BE := Aside0.mk (blk_grown (blk_new wr (.cells #[.int .i64 e.f0, .int .i64 e.f1, .int .i64 e.f2, .int .i64 e.f3, .int .i64 e.f4, .int .i64 e.f5, .int .i64 e.f6, .int .u8 e.f7] 23)) HG1.out (by have := HM2.out.lt; simp; omega)); have hz0 := (blk_cell BE.out 0).trans rfl; have hz1 := (blk_cell BE.out 1).trans rfl; have hz2 := (blk_cell BE.out 2).trans rfl; have hz3 := (blk_cell BE.out 3).trans rfl; have hz4 := (blk_cell BE.out 4).trans rfl; have hz5 := (blk_cell BE.out 5).trans rfl; have hz6 := (blk_cell BE.out 6).trans rfl; have hz7 := (blk_cell BE.out 7).trans rfl)
              | ((with_reducible refine gate_dst (N := 60) rfl ?_); refine map_lookup rfl _ _ rfl (w.heap.size + 1 + 1) _ _ rfl HM2'.out e.f0 1 rfl hI0 (if_pos rfl) ?_)
              | (go_at_call 85; refine (network_Right.calls _ _ _ _ _ _ _ _ _ _ HRt.out).mono ?_; rintro e' w2 ⟨rfl, hb2⟩; have HB2 := Aside0.mk hb2; clear hb2))
              go_ret
              exact ⟨rfl, below_then ((HB.out.alloc HB.out.size _).grown HG1.out (by have := HB.out.size; simp; omega) (fun k e => by cases e; omega)) (by have := HB.out.size; have := HG1.out.size; simp at this; omega) HB2.out⟩
            | true =>
              rw [hri] at HRt
              have HRi := Aside0.mk hri
              clear hri
              by_cases hs : l0_0.contains e.f1 = true
              · have HCS := Aside0.mk (show met l0_0 e.f1 = 1 from if_pos hs)
                have HSs := Aside0.mk hs
                clear hs
                by_cases hd : l0_0.contains e.f2 = true
                · have HCD := Aside0.mk (show met l0_0 e.f2 = 1 from if_pos hd)
                  have HDd := Aside0.mk hd
                  clear hd
                  go_wp2_with (first
                  | ((with_reducible refine gate_dst (N := 55) rfl ?_); refine map_lookup rfl _ _ rfl (w.heap.size + 1 + 1) _ _ rfl (HM2.out.alloc _) e.f0 0 rfl hI0 HC0.out ?_)
                  | (at_mapUpdate; refine map_store rfl _ _ _ rfl (w.heap.size + 1 + 1) _ _ rfl (HM2.out.alloc _) (by omega) e.f0 1 rfl hI0 rfl (by unfold I64; omega) ?_; intro w1 hm1 hg1; have HM2' := Aside0.mk hm1; have HG1 := Aside0.mk hg1; clear hm1 hg1; have BE := Aside0.mk (blk_grown (blk_new wr (.cells #[.int .i64 e.f0, .int .i64 e.f1, .int .i64 e.f2, .int .i64 e.f3, .int .i64 e.f4, .int .i64 e.f5, .int .i64 e.f6, .int .u8 e.f7] 23)) HG1.out (by have := HM2.out.lt; simp; omega)); have hz0 := (blk_cell BE.out 0).trans rfl; have hz1 := (blk_cell BE.out 1).trans rfl; have hz2 := (blk_cell BE.out 2).trans rfl; have hz3 := (blk_cell BE.out 3).trans rfl; have hz4 := (blk_cell BE.out 4).trans rfl; have hz5 := (blk_cell BE.out 5).trans rfl; have hz6 := (blk_cell BE.out 6).trans rfl; have hz7 := (blk_cell BE.out 7).trans rfl)
                  | ((with_reducible refine gate_dst (N := 60) rfl ?_); refine map_lookup rfl _ _ rfl (w.heap.size + 1 + 1) _ _ rfl HM2'.out e.f0 1 rfl hI0 (if_pos rfl) ?_)
                  | (go_at_call 85; refine (network_Right.calls _ _ _ _ _ _ _ _ _ _ HRt.out).mono ?_; rintro e' w2 ⟨rfl, hb2⟩; have HB2 := Aside0.mk hb2; clear hb2; have BE2 := Aside0.mk (blk_below BE.out HB2.out); have hy0 := (blk_cell BE2.out 0).trans rfl; have hy1 := (blk_cell BE2.out 1).trans rfl; have hy2 := (blk_cell BE2.out 2).trans rfl; have HM1' := Aside0.mk (((HM1.out.alloc (.cells #[.int .i64 e.f0, .int .i64 e.f1, .int .i64 e.f2, .int .i64 e.f3, .int .i64 e.f4, .int .i64 e.f5, .int .i64 e.f6, .int .u8 e.f7] 23)).kept HG1.out (by simp)).below HB2.out))
                  | ((with_reducible refine gate_dst (N := 71) rfl ?_); refine gate_guard rfl ?_; refine map_lookup rfl _ _ rfl (w.heap.size + 1) _ _ rfl HM1'.out e.f1 1 rfl hI1 HCS.out ?_)
                  | ((with_reducible refine gate_dst (N := 78) rfl ?_); refine gate_guard rfl ?_; refine map_lookup rfl _ _ rfl (w.heap.size + 1) _ _ rfl HM1'.out e.f2 1 rfl hI2 HCD.out ?_))
                  go_roundw
                  case rel =>
                    have e1 : (x + 1).toNat = x.toNat + 1 := by omega
                    refine ⟨x + 1, by go_num, ⟨by have := HX.out; omega⟩, ⟨?_⟩, ⟨?_⟩, ⟨HM1'.out⟩, ⟨?_⟩, ⟨?_⟩⟩
                    · rw [e1, HS.out, HR.out]; exact (Net.legsOk_snoc _ _ _).2 ⟨HP2.out, Bool.eq_false_iff.2 HN.out, HRi.out, HSs.out, HDd.out⟩
                    · exact blk_below (blk_grown (blk_alloc BK.out _) HG1.out (by intro h; injection h with h; omega)) HB2.out
                    · rw [e1]; exact (HM2'.out.congr (fun q => by rw [HS.out, HR.out, List.map_append, List.map_cons, List.map_nil]; exact (met_snoc _ e.f0 q).symm)).below HB2.out
                    · exact below_then ((HB.out.alloc HB.out.size _).grown HG1.out (by have := HB.out.size; simp; omega) (fun k e => by cases e; omega)) (by have := HB.out.size; have := HG1.out.size; simp at this; omega) HB2.out
                  case measure => simp [intOf]; omega
                · have HCD := Aside0.mk (show met l0_0 e.f2 = 0 from if_neg hd)
                  have hret : r = 321 := by rw [← H.out, HE.out, HP.out, if_neg (by simp), if_pos]; apply HF.out; rw [HR.out]; intro h; exact hd h.2.2.2
                  subst hret
                  clear hd
                  go_wp2_with (first
                  | ((with_reducible refine gate_dst (N := 55) rfl ?_); refine map_lookup rfl _ _ rfl (w.heap.size + 1 + 1) _ _ rfl (HM2.out.alloc _) e.f0 0 rfl hI0 HC0.out ?_)
                  | (at_mapUpdate; refine map_store rfl _ _ _ rfl (w.heap.size + 1 + 1) _ _ rfl (HM2.out.alloc _) (by omega) e.f0 1 rfl hI0 rfl (by unfold I64; omega) ?_; intro w1 hm1 hg1; have HM2' := Aside0.mk hm1; have HG1 := Aside0.mk hg1; clear hm1 hg1; have BE := Aside0.mk (blk_grown (blk_new wr (.cells #[.int .i64 e.f0, .int .i64 e.f1, .int .i64 e.f2, .int .i64 e.f3, .int .i64 e.f4, .int .i64 e.f5, .int .i64 e.f6, .int .u8 e.f7] 23)) HG1.out (by have := HM2.out.lt; simp; omega)); have hz0 := (blk_cell BE.out 0).trans rfl; have hz1 := (blk_cell BE.out 1).trans rfl; have hz2 := (blk_cell BE.out 2).trans rfl; have hz3 := (blk_cell BE.out 3).trans rfl; have hz4 := (blk_cell BE.out 4).trans rfl; have hz5 := (blk_cell BE.out 5).trans rfl; have hz6 := (blk_cell BE.out 6).trans rfl; have hz7 := (blk_cell BE.out 7).trans rfl)
                  | ((with_reducible refine gate_dst (N := 60) rfl ?_); refine map_lookup rfl _ _ rfl (w.heap.size + 1 + 1) _ _ rfl HM2'.out e.f0 1 rfl hI0 (if_pos rfl) ?_)
                  | (go_at_call 85; refine (network_Right.calls _ _ _ _ _ _ _ _ _ _ HRt.out).mono ?_; rintro e' w2 ⟨rfl, hb2⟩; have HB2 := Aside0.mk hb2; clear hb2; have BE2 := Aside0.mk (blk_below BE.out HB2.out); have hy0 := (blk_cell BE2.out 0).trans rfl; have hy1 := (blk_cell BE2.out 1).trans rfl; have hy2 := (blk_cell BE2.out 2).trans rfl; have HM1' := Aside0.mk (((HM1.out.alloc (.cells #[.int .i64 e.f0, .int .i64 e.f1, .int .i64 e.f2, .int .i64 e.f3, .int .i64 e.f4, .int .i64 e.f5, .int .i64 e.f6, .int .u8 e.f7] 23)).kept HG1.out (by simp)).below HB2.out))
                  | ((with_reducible refine gate_dst (N := 71) rfl ?_); refine gate_guard rfl ?_; refine map_lookup rfl _ _ rfl (w.heap.size + 1) _ _ rfl HM1'.out e.f1 1 rfl hI1 HCS.out ?_)
                  | ((with_reducible refine gate_dst (N := 78) rfl ?_); refine gate_guard rfl ?_; refine map_lookup rfl _ _ rfl (w.heap.size + 1) _ _ rfl HM1'.out e.f2 0 rfl hI2 HCD.out ?_))
                  go_ret
                  exact ⟨rfl, below_then ((HB.out.alloc HB.out.size _).grown HG1.out (by have := HB.out.size; simp; omega) (fun k e => by cases e; omega)) (by have := HB.out.size; have := HG1.out.size; simp at this; omega) HB2.out⟩
              · have HCS := Aside0.mk (show met l0_0 e.f1 = 0 from if_neg hs)
                have hret : r = 321 := by rw [← H.out, HE.out, HP.out, if_neg (by simp), if_pos]; apply HF.out; rw [HR.out]; intro h; exact hs h.2.2.1
                subst hret
                clear hs
                go_wp2_with (first
                | ((with_reducible refine gate_dst (N := 55) rfl ?_); refine map_lookup rfl _ _ rfl (w.heap.size + 1 + 1) _ _ rfl (HM2.out.alloc _) e.f0 0 rfl hI0 HC0.out ?_)
                | (at_mapUpdate; refine map_store rfl _ _ _ rfl (w.heap.size + 1 + 1) _ _ rfl (HM2.out.alloc _) (by omega) e.f0 1 rfl hI0 rfl (by unfold I64; omega) ?_; intro w1 hm1 hg1; have HM2' := Aside0.mk hm1; have HG1 := Aside0.mk hg1; clear hm1 hg1; have BE := Aside0.mk (blk_grown (blk_new wr (.cells #[.int .i64 e.f0, .int .i64 e.f1, .int .i64 e.f2, .int .i64 e.f3, .int .i64 e.f4, .int .i64 e.f5, .int .i64 e.f6, .int .u8 e.f7] 23)) HG1.out (by have := HM2.out.lt; simp; omega)); have hz0 := (blk_cell BE.out 0).trans rfl; have hz1 := (blk_cell BE.out 1).trans rfl; have hz2 := (blk_cell BE.out 2).trans rfl; have hz3 := (blk_cell BE.out 3).trans rfl; have hz4 := (blk_cell BE.out 4).trans rfl; have hz5 := (blk_cell BE.out 5).trans rfl; have hz6 := (blk_cell BE.out 6).trans rfl; have hz7 := (blk_cell BE.out 7).trans rfl)
                | ((with_reducible refine gate_dst (N := 60) rfl ?_); refine map_lookup rfl _ _ rfl (w.heap.size + 1 + 1) _ _ rfl HM2'.out e.f0 1 rfl hI0 (if_pos rfl) ?_)
                | (go_at_call 85; refine (network_Right.calls _ _ _ _ _ _ _ _ _ _ HRt.out).mono ?_; rintro e' w2 ⟨rfl, hb2⟩; have HB2 := Aside0.mk hb2; clear hb2; have BE2 := Aside0.mk (blk_below BE.out HB2.out); have hy0 := (blk_cell BE2.out 0).trans rfl; have hy1 := (blk_cell BE2.out 1).trans rfl; have hy2 := (blk_cell BE2.out 2).trans rfl; have HM1' := Aside0.mk (((HM1.out.alloc (.cells #[.int .i64 e.f0, .int .i64 e.f1, .int .i64 e.f2, .int .i64 e.f3, .int .i64 e.f4, .int .i64 e.f5, .int .i64 e.f6, .int .u8 e.f7] 23)).kept HG1.out (by simp)).below HB2.out))
                | ((with_reducible refine gate_dst (N := 71) rfl ?_); refine gate_guard rfl ?_; refine map_lookup rfl _ _ rfl (w.heap.size + 1) _ _ rfl HM1'.out e.f1 0 rfl hI1 HCS.out ?_))
                go_ret
                exact ⟨rfl, below_then ((HB.out.alloc HB.out.size _).grown HG1.out (by have := HB.out.size; simp; omega) (fun k e => by cases e; omega)) (by have := HB.out.size; have := HG1.out.size; simp at this; omega) HB2.out⟩
        · obtain rfl : x = (l0_1.length : Int) := by have := HX.out; omega
          have hfin : r = 0 := by
            have hp := HP2.out
            rw [Int.toNat_natCast, ← HL1.out, List.take_length] at hp
            rw [← H.out, HE.out, HP.out, hp]; simp
          subst hfin
          go_wp2
          go_ret
          exact ⟨rfl, HB.out⟩
end Go.Proofs.Ytdpadeklociinaa.PA
