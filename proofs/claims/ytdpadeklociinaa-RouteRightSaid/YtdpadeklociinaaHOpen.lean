import Derived.Test.YtdpadeklociinaaHSort
import Derived.Test.YtdpadeklociinaaHRowAll
import Derived.Test.YtdpadeklociinaaHFwd
import Derived.Deep.RegionHeld3
set_option linter.unusedVariables false
namespace Go.Proofs.Ytdpadeklociinaa.PA
open Go.RowKit Go.Maps Go.Proofs.YtdpadeklociinaaW.PrintWords Go.Proofs.YtdpadeklociinaaW.PrintLast Go.Proofs.YtdpadeklociinaaW.PrintMore Go.Proofs.Ytdpadeklociinaa

def zeroW : Array Value := #[.map none, .int .i64 0, .slice none 0 0]
theorem results61 (tmps : Array Value) (W : World) (g6 : Nat) (cs : Array Value) (c : Int) (hs : cs.size = 3) (h6 : tmps.getD 6 undef = .pointer (some ⟨g6, 0, none⟩)) (h7 : tmps.getD 7 undef = .int .i64 c)
    (b6 : W.heap[g6]? = some (.cells cs 106 (0, 0))) :
    (results Try.f61 tmps).run Try.prog W = .ok (.tuple #[.agg cs, .int .i64 c]) W := by
  have h6' : tmps[6]?.getD undef = .pointer (some ⟨g6, 0, none⟩) := by simpa using h6
  have h7' : tmps[7]?.getD undef = .int .i64 c := by simpa using h7
  have hr : Try.f61.results = #[.cell 6 106, .tmp 7] := rfl
  have l4 := run_loadVar_row W g6 106 106 cs (0, 0) _ b6 Try.underlying106 rfl (by rw [hs]; kernel_rfl)
  simp [results, h6', h7', asAddr, l4]

theorem cell_set_far {w : World} {b o g i : Nat} {v u : Value} (h : w.cell? ⟨b, o, none⟩ = some u) (hne : g ≠ b) : (w.setCell ⟨g, i, none⟩ v).cell? ⟨b, o, none⟩ = some u := (World.cell?_setCell_far w ⟨g, i, none⟩ ⟨b, o, none⟩ v hne).trans h
theorem cell_alloc' {w : World} {b o : Nat} {u : Value} (h : w.cell? ⟨b, o, none⟩ = some u) (ob : Obj) : (w.alloc ob).cell? ⟨b, o, none⟩ = some u := (World.cell?_alloc_some w ⟨b, o, none⟩ ob (by rw [h]; rfl)).trans h
theorem size_set3 (w' : World) (a b c : Addr) (u v x : Value) : (((w'.setCell a u).setCell b v).setCell c x).heap.size = w'.heap.size := by simp
theorem set3 {w3 w' : World} {bm g9 B base : Nat} {vl : Value} {l : List S23} {k : Int} (hz : w'.heap[g9]? = some (.cells zeroW 106 (0, 0))) (hR : Kd.R k23 23 w' base (fun _ => True) vl l) (hb : Below B w3 w') (hB : B ≤ g9) :
    (((w'.setCell ⟨g9, 0, none⟩ (.map (some bm))).setCell ⟨g9, 1, none⟩ (.int .i64 k)).setCell ⟨g9, 2, none⟩ vl).heap[g9]? = some (.cells #[.map (some bm), .int .i64 k, vl] 106 (0, 0)) ∧
    Kd.R k23 23 (((w'.setCell ⟨g9, 0, none⟩ (.map (some bm))).setCell ⟨g9, 1, none⟩ (.int .i64 k)).setCell ⟨g9, 2, none⟩ vl) base (fun _ => True) vl l ∧
    Below B w3 (((w'.setCell ⟨g9, 0, none⟩ (.map (some bm))).setCell ⟨g9, 1, none⟩ (.int .i64 k)).setCell ⟨g9, 2, none⟩ vl) := by
  refine ⟨?_, ?_, ((hb.setCell hB _).setCell hB _).setCell hB _⟩
  · exact blk_put (cs' := #[.map (some bm), .int .i64 k, vl]) (blk_put (cs' := #[.map (some bm), .int .i64 k, .slice none 0 0]) (blk_put (cs' := #[.map (some bm), .int .i64 0, .slice none 0 0]) hz 0 _ rfl) 1 _ rfl) 2 _ rfl
  · exact Kd.R_mono (Kd.R_far (Kd.R_far (Kd.R_far (Kd.R_types hR hz (by decide)) (fun _ h => h.2) _) (fun _ h => h.2) _) (fun _ h => h.2) _) (fun _ _ => trivial)
theorem open_fin {w3 w' : World} {bm g9 B base n : Nat} {pl : List Int} {vl : Value} {l : List S23} {k : Int} (hm : PosIs w' bm n pl) (hz : w'.heap[g9]? = some (.cells zeroW 106 (0, 0))) (hR : Kd.R k23 23 w' base (fun _ => True) vl l) (hb : Below B w3 w') (hB : B ≤ g9) :
    PosIs (((w'.setCell ⟨g9, 0, none⟩ (.map (some bm))).setCell ⟨g9, 1, none⟩ (.int .i64 k)).setCell ⟨g9, 2, none⟩ vl) bm n pl ∧
    (((w'.setCell ⟨g9, 0, none⟩ (.map (some bm))).setCell ⟨g9, 1, none⟩ (.int .i64 k)).setCell ⟨g9, 2, none⟩ vl).heap[g9]? = some (.cells #[.map (some bm), .int .i64 k, vl] 106 (0, 0)) ∧
    Kd.R k23 23 (((w'.setCell ⟨g9, 0, none⟩ (.map (some bm))).setCell ⟨g9, 1, none⟩ (.int .i64 k)).setCell ⟨g9, 2, none⟩ vl) base (fun _ => True) vl l ∧
    Below B w3 (((w'.setCell ⟨g9, 0, none⟩ (.map (some bm))).setCell ⟨g9, 1, none⟩ (.int .i64 k)).setCell ⟨g9, 2, none⟩ vl) := by
  have hne : some bm ≠ some g9 := fun e => hm.ne_cells hz (by injection e)
  refine ⟨((hm.kept (grown_setCell1 _ _ _ _) hne).kept (grown_setCell1 _ _ _ _) hne).kept (grown_setCell1 _ _ _ _) hne, ?_, ?_, ((hb.setCell hB _).setCell hB _).setCell hB _⟩
  · exact blk_put (cs' := #[.map (some bm), .int .i64 k, vl]) (blk_put (cs' := #[.map (some bm), .int .i64 k, .slice none 0 0]) (blk_put (cs' := #[.map (some bm), .int .i64 0, .slice none 0 0]) hz 0 _ rfl) 1 _ rfl) 2 _ rfl
  · exact Kd.R_mono (Kd.R_far (Kd.R_far (Kd.R_far (Kd.R_types hR hz (by decide)) (fun _ h => h.2) _) (fun _ h => h.2) _) (fun _ h => h.2) _) (fun _ _ => trivial)

set_option maxRecDepth 100000 in
set_option maxHeartbeats 40000000 in
theorem open.calls (A0 : Option Addr) (c0 : Nat) (l0 : List Int) (A1 : Option Addr) (c1 : Nat) (l1 : List S23) (time : Int) (Ap : Option Addr) (cp : Nat) (lp : List Int) (w : World)
    (hr0 : Kd.C (Kd.int .i64) w A0 l0.length l0) (hc0 : l0.length ≤ c0) (hr1 : Kd.C k23 w A1 l1.length l1) (hc1 : l1.length ≤ c1) (hrp : Kd.C (Kd.int .i64) w Ap lp.length lp) (hcp : lp.length ≤ cp) (hpl : lp.length ≤ 2)
    (hI : netI l0 l1 = true) (hp : ∀ p ∈ lp, I64 p) (ht : I64 time) :
    Calls Try.prog 61 #[.agg #[.slice A0 l0.length c0, .slice A1 l1.length c1], .int .i64 time, .slice Ap lp.length cp] w fun e w' => Below w.heap.size w w' ∧
      ∃ er V, e = .returned (.tuple #[.agg V, .int .i64 er]) ∧ er = (netOf l0 l1).openErr time lp ∧ (er ≠ 0 → V = zeroW) ∧
        (er = 0 → ∃ bm vl, V = #[.map (some bm), .int .i64 l0.length, vl] ∧ w.heap.size ≤ bm ∧ PosIs w' bm l0.length l0 ∧ ∃ sl, sl.Perm l1 ∧ sl.Pairwise (fun a b => a.f0 ≤ b.f0) ∧ Kd.R k23 23 w' w.heap.size (fun _ => True) vl sl) := by
  have HR0 := Aside0.mk hr0
  have HR1 := Aside0.mk hr1
  have HRp := Aside0.mk hrp
  have HP := Aside0.mk hp
  have HT := Aside0.mk ht
  clear hr0 hr1 hrp hp ht
  have HV := Aside0.mk (show network_Valid.f l0 l1 = some (Net.errOf l0 (l1.map toLeg)) from by unfold network_Valid.f; rw [if_pos hI])
  have HI := Aside0.mk hI
  clear hI
  have HO := Aside0.mk (show (netOf l0 l1).openErr time lp = if Net.errOf l0 (l1.map toLeg) ≠ 0 then Net.errOf l0 (l1.map toLeg) else if lp.all (fun p => l0.contains p) && decide (0 ≤ time) && decide (time ≤ 1051898399) then 0 else 2 from rfl)
  generalize (netOf l0 l1).openErr time lp = ro at HO
  have HE := Aside0.mk (show Net.errOf l0 (l1.map toLeg) = 0 → l0.length ≤ 50 ∧ l1.length ≤ 200 ∧ l0.Nodup from by
    intro h
    have hv := Net.valid_of_errOf h
    exact ⟨hv.many, by have := hv.manyL; simpa using this, hv.nodup⟩)
  generalize hre : Net.errOf l0 (l1.map toLeg) = re at HV HO HE
  clear hre
  have hmm := @run_makeMap Try.prog
  have HBW : Aside0 (∀ w2, Below ((w.alloc (.cells #[.slice A0 l0.length c0, .slice A1 l1.length c1] 29)).alloc (.cells zeroW 106)).heap.size ((w.alloc (.cells #[.slice A0 l0.length c0, .slice A1 l1.length c1] 29)).alloc (.cells zeroW 106)) w2 →
      w2.heap[w.heap.size]? = some (.cells #[.slice A0 l0.length c0, .slice A1 l1.length c1] 29 (0, 0)) ∧ w2.heap[w.heap.size + 1]? = some (.cells zeroW 106 (0, 0)) ∧ Below w.heap.size w w2) := ⟨by
    intro w2 hb
    refine ⟨blk_below (blk_alloc (blk_new w _) _) hb, blk_below ?_ hb, below_then (((Below.refl _ _).alloc (Nat.le_refl _) _).alloc (by simp) _) (by simp; omega) hb⟩
    have := blk_new (w.alloc (.cells #[.slice A0 l0.length c0, .slice A1 l1.length c1] 29)) (.cells zeroW 106)
    simpa using this⟩
  by_cases hre : re = 0
  · subst hre
    obtain ⟨hm50, hm200, hnd⟩ := HE.out rfl
    go_enter Try.func61, Try.ntmps61
    go_wp2_with (go_at_call 55; refine (network_Valid.calls A0 c0 l0 A1 c1 l1 _ _ (Kd.C_below HR0.out (below_alloc (below_alloc (Below.refl _ _) _) _)) hc0 (Kd.C_below HR1.out (below_alloc (below_alloc (Below.refl _ _) _) _)) hc1 HV.out).mono ?_; rintro e w2 ⟨rfl, hb⟩; obtain ⟨k1, k2, k3⟩ := HBW.out w2 hb; have B1 := Aside0.mk k1; have B2 := Aside0.mk k2; have B3 := Aside0.mk k3; clear hb k1 k2 k3; have y0 : w2.cell? ⟨w.heap.size + 1, 0, none⟩ = some (.map none) := (blk_cell B2.out 0).trans rfl; have y1 : w2.cell? ⟨w.heap.size + 1, 1, none⟩ = some (.int .i64 0) := (blk_cell B2.out 1).trans rfl; have y2 : w2.cell? ⟨w.heap.size + 1, 2, none⟩ = some (.slice none 0 0) := (blk_cell B2.out 2).trans rfl; have f2 := blk_frozen B2.out; have z0 : w2.cell? ⟨w.heap.size, 0, none⟩ = some (.slice A0 l0.length c0) := (blk_cell B1.out 0).trans rfl; have z1 : w2.cell? ⟨w.heap.size, 1, none⟩ = some (.slice A1 l1.length c1) := (blk_cell B1.out 1).trans rfl)
    have z3 := blk_lt B1.out
    have z4 := blk_lt B2.out
    refine Code.wp_mono (Q := Exit.then (fun a' w' => (∃ bm g9 vl, w2.heap.size ≤ bm ∧ PosIs w' bm 0 [] ∧ w'.heap[g9]? = some (.cells #[.map (some bm), .int .i64 l0.length, vl] 106 (0, 0)) ∧ Kd.R k23 23 w' w2.heap.size (fun _ => True) vl l1 ∧ (∃ u10 u11 u12 u13 u14 u15 u16 u17 u18 u19 u20 u21 u22 u23 u24 u25 u26 u27 u28 u29 u30 u31 u32 u33 u34 u35 u36 u37 u38 u39 u40 u41 u42 u43 u44 u45 u46 u47 u48 u49 u50 u51 u52 u53 u54 u55 u56 u57 u58 u59 u60 u61 u62 u63 u64 u65 u66 u67 u68 u69 u70 : Value, a' = { tmps := #[.agg #[.slice A0 l0.length c0, .slice A1 l1.length c1], .int .i64 time, .slice Ap lp.length cp, .pointer (some ⟨w.heap.size, 0, none⟩), undef, undef, .pointer (some ⟨w.heap.size + 1, 0, none⟩), .int .i64 0, .int .i64 0, .pointer (some ⟨g9, 0, none⟩), u10, u11, u12, u13, u14, u15, u16, u17, u18, u19, u20, u21, u22, u23, u24, u25, u26, u27, u28, u29, u30, u31, u32, u33, u34, u35, u36, u37, u38, u39, u40, u41, u42, u43, u44, u45, u46, u47, u48, u49, u50, u51, u52, u53, u54, u55, u56, u57, u58, u59, u60, u61, u62, u63, u64, u65, u66, u67, u68, u69, u70], defers := [] })) ∧ Below w2.heap.size w2 w') (fun _ _ _ => False)) ?_ ?_
    rotate_left
    · go_region_held3 (fun W' => W'.cell? ⟨w.heap.size, 0, none⟩ = some (.slice A0 l0.length c0) ∧ W'.cell? ⟨w.heap.size, 1, none⟩ = some (.slice A1 l1.length c1)) (first | exact ⟨z0', z1'⟩ | go_keep | (refine ⟨?_, ?_⟩ <;> (repeat (first | exact z0' | exact z1' | exact z0 | exact z1 | (refine cell_set_far ?_ (by omega)) | (refine cell_alloc' ?_ _))))) (first | (go_at_call 90; first | (refine (slices_Clone_Leg.calls A1 c1 l1 ((w2.alloc (.map #[] 0)).drew) (Kd.C_below HR1.out ((B3.out.alloc B3.out.size _).drew)) hc1 (by omega)).mono ?_; rintro e w' ⟨v0, rfl, hR0, hb⟩; obtain ⟨Av, cv, ev⟩ := Kd.R_slice hR0; subst ev; have n4 := Aside0.mk (below_then (((Below.refl w2.heap.size w2).alloc (Nat.le_refl _) _).drew) (by simp) hb); have hR := Aside0.mk (Kd.R_lower hR0 (show w2.heap.size ≤ ((w2.alloc (.map #[] 0)).drew).heap.size by simp)); have z3' : w.heap.size < w'.heap.size := Nat.lt_of_lt_of_le z3 n4.out.size; have z0' : w'.cell? ⟨w.heap.size, 0, none⟩ = some (.slice A0 l0.length c0) := (blk_cell (blk_below B1.out n4.out) 0).trans rfl; have z1' : w'.cell? ⟨w.heap.size, 1, none⟩ = some (.slice A1 l1.length c1) := (blk_cell (blk_below B1.out n4.out) 1).trans rfl; have hP := Aside0.mk (PosIs.below (w := (w2.alloc (.map #[] 0)).drew) (PosIs.made w2) hb); clear hR0 hb) | (refine (slices_Clone_Leg.calls A1 c1 l1 (w2.drew) (Kd.C_below HR1.out (B3.out.drew)) hc1 (by omega)).mono ?_; rintro e w' ⟨v0, rfl, hR0, hb⟩; obtain ⟨Av, cv, ev⟩ := Kd.R_slice hR0; subst ev; have n4 := Aside0.mk (below_then ((Below.refl w2.heap.size w2).drew) (by simp) hb); have hR := Aside0.mk (Kd.R_lower hR0 (show w2.heap.size ≤ (w2.drew).heap.size by simp)); have z3' : w.heap.size < w'.heap.size := Nat.lt_of_lt_of_le z3 n4.out.size; have z0' : w'.cell? ⟨w.heap.size, 0, none⟩ = some (.slice A0 l0.length c0) := (blk_cell (blk_below B1.out n4.out) 0).trans rfl; have z1' : w'.cell? ⟨w.heap.size, 1, none⟩ = some (.slice A1 l1.length c1) := (blk_cell (blk_below B1.out n4.out) 1).trans rfl; clear hR0 hb) | (refine (slices_Clone_Leg.calls A1 c1 l1 ((w2.alloc (.cells zeroW 106)).drew) (Kd.C_below HR1.out ((B3.out.alloc B3.out.size _).drew)) hc1 (by omega)).mono ?_; rintro e w' ⟨v0, rfl, hR0, hb⟩; obtain ⟨Av, cv, ev⟩ := Kd.R_slice hR0; subst ev; have n4 := Aside0.mk (below_then (((Below.refl w2.heap.size w2).alloc (Nat.le_refl _) _).drew) (by simp) hb); have hR := Aside0.mk (Kd.R_lower hR0 (show w2.heap.size ≤ ((w2.alloc (.cells zeroW 106)).drew).heap.size by simp)); have z3' : w.heap.size < w'.heap.size := Nat.lt_of_lt_of_le z3 n4.out.size; have z0' : w'.cell? ⟨w.heap.size, 0, none⟩ = some (.slice A0 l0.length c0) := (blk_cell (blk_below B1.out n4.out) 0).trans rfl; have z1' : w'.cell? ⟨w.heap.size, 1, none⟩ = some (.slice A1 l1.length c1) := (blk_cell (blk_below B1.out n4.out) 1).trans rfl; have hZ := Aside0.mk (blk_below (w := (w2.alloc (.cells zeroW 106)).drew) (blk_new w2 (.cells zeroW 106)) hb); have z5' : w2.heap.size < w'.heap.size := blk_lt hZ.out; have c0' : w'.cell? ⟨w2.heap.size, 0, none⟩ = some (.map none) := (blk_cell hZ.out 0).trans rfl; have c1' : w'.cell? ⟨w2.heap.size, 1, none⟩ = some (.int .i64 0) := (blk_cell hZ.out 1).trans rfl; have c2' : w'.cell? ⟨w2.heap.size, 2, none⟩ = some (.slice none 0 0) := (blk_cell hZ.out 2).trans rfl; have f0' := blk_frozen hZ.out; clear hR0 hb) | (refine (slices_Clone_Leg.calls A1 c1 l1 (((w2.alloc (.map #[] 0)).alloc (.cells zeroW 106)).drew) (Kd.C_below HR1.out (((B3.out.alloc B3.out.size _).alloc (by have := B3.out.size; simp; omega) _).drew)) hc1 (by omega)).mono ?_; rintro e w' ⟨v0, rfl, hR0, hb⟩; obtain ⟨Av, cv, ev⟩ := Kd.R_slice hR0; subst ev; have n4 := Aside0.mk (below_then ((((Below.refl w2.heap.size w2).alloc (Nat.le_refl _) _).alloc (by simp) _).drew) (by simp; omega) hb); have hR := Aside0.mk (Kd.R_lower hR0 (show w2.heap.size ≤ (((w2.alloc (.map #[] 0)).alloc (.cells zeroW 106)).drew).heap.size by simp; omega)); have z3' : w.heap.size < w'.heap.size := Nat.lt_of_lt_of_le z3 n4.out.size; have z0' : w'.cell? ⟨w.heap.size, 0, none⟩ = some (.slice A0 l0.length c0) := (blk_cell (blk_below B1.out n4.out) 0).trans rfl; have z1' : w'.cell? ⟨w.heap.size, 1, none⟩ = some (.slice A1 l1.length c1) := (blk_cell (blk_below B1.out n4.out) 1).trans rfl; have hP := Aside0.mk (PosIs.below (w := ((w2.alloc (.map #[] 0)).alloc (.cells zeroW 106)).drew) ((PosIs.made w2).alloc (.cells zeroW 106)) hb); have hZ := Aside0.mk (blk_below (w := ((w2.alloc (.map #[] 0)).alloc (.cells zeroW 106)).drew) (by have := blk_new (w2.alloc (.map #[] 0)) (.cells zeroW 106); simpa using this : ((w2.alloc (.map #[] 0)).alloc (.cells zeroW 106)).heap[w2.heap.size + 1]? = some (.cells zeroW 106)) hb); have z5' : w2.heap.size + 1 < w'.heap.size := blk_lt hZ.out; have c0' : w'.cell? ⟨w2.heap.size + 1, 0, none⟩ = some (.map none) := (blk_cell hZ.out 0).trans rfl; have c1' : w'.cell? ⟨w2.heap.size + 1, 1, none⟩ = some (.int .i64 0) := (blk_cell hZ.out 1).trans rfl; have c2' : w'.cell? ⟨w2.heap.size + 1, 2, none⟩ = some (.slice none 0 0) := (blk_cell hZ.out 2).trans rfl; have f0' := blk_frozen hZ.out; clear hR0 hb) | (refine (slices_Clone_Leg.calls A1 c1 l1 (((w2.alloc (.cells zeroW 106)).alloc (.map #[] 0)).drew) (Kd.C_below HR1.out (((B3.out.alloc B3.out.size _).alloc (by have := B3.out.size; simp; omega) _).drew)) hc1 (by omega)).mono ?_; rintro e w' ⟨v0, rfl, hR0, hb⟩; obtain ⟨Av, cv, ev⟩ := Kd.R_slice hR0; subst ev; have n4 := Aside0.mk (below_then ((((Below.refl w2.heap.size w2).alloc (Nat.le_refl _) _).alloc (by simp) _).drew) (by simp; omega) hb); have hR := Aside0.mk (Kd.R_lower hR0 (show w2.heap.size ≤ (((w2.alloc (.cells zeroW 106)).alloc (.map #[] 0)).drew).heap.size by simp; omega)); have z3' : w.heap.size < w'.heap.size := Nat.lt_of_lt_of_le z3 n4.out.size; have z0' : w'.cell? ⟨w.heap.size, 0, none⟩ = some (.slice A0 l0.length c0) := (blk_cell (blk_below B1.out n4.out) 0).trans rfl; have z1' : w'.cell? ⟨w.heap.size, 1, none⟩ = some (.slice A1 l1.length c1) := (blk_cell (blk_below B1.out n4.out) 1).trans rfl; have hP := Aside0.mk (PosIs.below (w := ((w2.alloc (.cells zeroW 106)).alloc (.map #[] 0)).drew) (by have := PosIs.made (w2.alloc (.cells zeroW 106)); simpa using this : PosIs ((w2.alloc (.cells zeroW 106)).alloc (.map #[] 0)) (w2.heap.size + 1) 0 []) hb); have hZ := Aside0.mk (blk_below (w := ((w2.alloc (.cells zeroW 106)).alloc (.map #[] 0)).drew) (blk_alloc (blk_new w2 (.cells zeroW 106)) (.map #[] 0)) hb); have z5' : w2.heap.size < w'.heap.size := blk_lt hZ.out; have c0' : w'.cell? ⟨w2.heap.size, 0, none⟩ = some (.map none) := (blk_cell hZ.out 0).trans rfl; have c1' : w'.cell? ⟨w2.heap.size, 1, none⟩ = some (.int .i64 0) := (blk_cell hZ.out 1).trans rfl; have c2' : w'.cell? ⟨w2.heap.size, 2, none⟩ = some (.slice none 0 0) := (blk_cell hZ.out 2).trans rfl; have f0' := blk_frozen hZ.out; clear hR0 hb)))
      all_goals (first | (have q := open_fin (k := l0.length) hP.out hZ.out hR.out n4.out (by simp); exact ⟨⟨_, _, _, by simp, q.1, q.2.1, q.2.2.1, _, _, _, _, _, _, _, _, _, _, _, _, _, _, _, _, _, _, _, _, _, _, _, _, _, _, _, _, _, _, _, _, _, _, _, _, _, _, _, _, _, _, _, _, _, _, _, _, _, _, _, _, _, _, _, _, _, _, _, _, _, rfl⟩, q.2.2.2⟩) | (have q := open_fin (k := l0.length) (PosIs.made w') (blk_alloc hZ.out (.map #[] 0)) (Kd.R_alloc hR.out (.map #[] 0)) (n4.out.alloc n4.out.size _) (by simp); exact ⟨⟨_, _, _, n4.out.size, q.1, q.2.1, q.2.2.1, _, _, _, _, _, _, _, _, _, _, _, _, _, _, _, _, _, _, _, _, _, _, _, _, _, _, _, _, _, _, _, _, _, _, _, _, _, _, _, _, _, _, _, _, _, _, _, _, _, _, _, _, _, _, _, _, _, _, _, _, _, rfl⟩, q.2.2.2⟩) | exact ⟨⟨_, _, _, by simp, hP.out.alloc _, blk_new w' _, Kd.R_alloc hR.out _, _, _, _, _, _, _, _, _, _, _, _, _, _, _, _, _, _, _, _, _, _, _, _, _, _, _, _, _, _, _, _, _, _, _, _, _, _, _, _, _, _, _, _, _, _, _, _, _, _, _, _, _, _, _, _, _, _, _, _, _, _, rfl⟩, n4.out.alloc n4.out.size _⟩ | (have q := PosIs.made (w'.alloc (.cells #[.map (some (w'.heap.size + 1)), .int .i64 l0.length, .slice Av l1.length cv] 106)); simp only [World.size_alloc] at q; exact ⟨⟨_, _, _, by have := n4.out.size; omega, q, blk_alloc (blk_new w' _) _, Kd.R_alloc (Kd.R_alloc hR.out _) _, _, _, _, _, _, _, _, _, _, _, _, _, _, _, _, _, _, _, _, _, _, _, _, _, _, _, _, _, _, _, _, _, _, _, _, _, _, _, _, _, _, _, _, _, _, _, _, _, _, _, _, _, _, _, _, _, _, _, _, _, _, rfl⟩, (n4.out.alloc n4.out.size _).alloc (by have := n4.out.size; simp; omega) _⟩) | (have q := blk_new (w'.alloc (.map #[] 0)) (.cells #[.map (some w'.heap.size), .int .i64 l0.length, .slice Av l1.length cv] 106); simp only [World.size_alloc] at q; exact ⟨⟨_, _, _, n4.out.size, (PosIs.made w').alloc _, q, Kd.R_alloc (Kd.R_alloc hR.out _) _, _, _, _, _, _, _, _, _, _, _, _, _, _, _, _, _, _, _, _, _, _, _, _, _, _, _, _, _, _, _, _, _, _, _, _, _, _, _, _, _, _, _, _, _, _, _, _, _, _, _, _, _, _, _, _, _, _, _, _, _, _, rfl⟩, (n4.out.alloc n4.out.size _).alloc (by have := n4.out.size; simp; omega) _⟩) | (have q := set3 (bm := w'.heap.size) (k := l0.length) hZ.out hR.out n4.out (Nat.le_refl _); have q2 := PosIs.made (((w'.setCell ⟨w2.heap.size, 0, none⟩ (.map (some w'.heap.size))).setCell ⟨w2.heap.size, 1, none⟩ (.int .i64 l0.length)).setCell ⟨w2.heap.size, 2, none⟩ (.slice Av l1.length cv)); rw [size_set3] at q2; exact ⟨⟨_, _, _, n4.out.size, q2, blk_alloc q.1 _, Kd.R_alloc q.2.1 _, _, _, _, _, _, _, _, _, _, _, _, _, _, _, _, _, _, _, _, _, _, _, _, _, _, _, _, _, _, _, _, _, _, _, _, _, _, _, _, _, _, _, _, _, _, _, _, _, _, _, _, _, _, _, _, _, _, _, _, _, _, rfl⟩, q.2.2.alloc q.2.2.size _⟩))
    · rintro en a' w3 hq3
      cases en with
      | normal =>
        obtain ⟨⟨bm, g9, vl, hbm, hP, hZ, hR, u10, u11, u12, u13, u14, u15, u16, u17, u18, u19, u20, u21, u22, u23, u24, u25, u26, u27, u28, u29, u30, u31, u32, u33, u34, u35, u36, u37, u38, u39, u40, u41, u42, u43, u44, u45, u46, u47, u48, u49, u50, u51, u52, u53, u54, u55, u56, u57, u58, u59, u60, u61, u62, u63, u64, u65, u66, u67, u68, u69, u70, rfl⟩, hb3⟩ := hq3
        have D1 := Aside0.mk (blk_below B1.out hb3)
        have D2 := Aside0.mk (blk_below B2.out hb3)
        have D3 := Aside0.mk (below_then B3.out B3.out.size hb3)
        have DP := Aside0.mk hP
        have DZ := Aside0.mk hZ
        have HBM := Aside0.mk hbm
        have hsz2 := B3.out.size
        obtain ⟨Av, cv, rfl⟩ := Kd.R_slice hR
        have DR := Aside0.mk hR
        have t2 : w3.cell? ⟨g9, 2, none⟩ = some (.slice Av l1.length cv) := (blk_cell hZ 2).trans rfl
        clear hP hZ hR hb3 hbm B1 B2 B3 y0 y1 y2 f2 z0 z1 z3 z4 HBW
        simp only [Exit.then]
        go_wp2_with (go_at_call 91; refine (sortLegs.calls _ w2.heap.size (fun _ => True) l1 _ DR.out (by omega)).mono ?_; rintro e w4 ⟨rfl, sl, s1, s2, s3, s4⟩; have S1 := Aside0.mk s1; have S2 := Aside0.mk s2; have S3 := Aside0.mk (Kd.R_lower s3 hsz2); have S4 := Aside0.mk s4; have F1 := Aside0.mk (blk_grown D1.out s4 (Kd.R_ne DR.out D1.out (by decide))); have F2 := Aside0.mk (blk_grown D2.out s4 (Kd.R_ne DR.out D2.out (by decide))); have FZ := Aside0.mk (blk_grown DZ.out s4 (Kd.R_ne DR.out DZ.out (by decide))); have FP := Aside0.mk (DP.out.kept s4 (DP.out.ne_legs DR.out)); have F3 := Aside0.mk (D3.out.grown s4 D3.out.size (fun k h => by have := Kd.R_base DR.out k h; omega)); have q0 : w4.cell? ⟨w.heap.size, 0, none⟩ = some (.slice A0 l0.length c0) := (blk_cell F1.out 0).trans rfl; clear s1 s2 s3 s4)
        clear D1 D2 D3 DP DZ DR S4 t2 q0
        go_loopw [36] (fun i wr => ∃ x : Int, i = .int .i64 x ∧ Aside0 (0 ≤ x ∧ x ≤ l0.length) ∧ Aside0 (PosIs wr bm x.toNat (l0.take x.toNat)) ∧ Aside0 (wr.heap[w.heap.size + 1]? = some (.cells zeroW 106 (0, 0))) ∧ Aside0 (wr.heap[g9]? = some (.cells #[.map (some bm), .int .i64 l0.length, .slice Av l1.length cv] 106 (0, 0))) ∧
          Aside0 (Kd.R k23 23 wr w.heap.size (fun _ => True) (.slice Av l1.length cv) sl) ∧ Aside0 (Below w.heap.size w wr)) (fun i _ => l0.length - (intOf i).toNat)
        case atStart => exact ⟨0, rfl, ⟨by omega⟩, FP, F2, FZ, S3, F3⟩
        case round =>
          clear F1 F2 FZ FP F3 S3
          obtain ⟨x, rfl, HX, HP1, F2, FZ, S3, F3⟩ := hrel
          have hx0 : 0 ≤ x := HX.out.1
          have q0 : wr.cell? ⟨g9, 0, none⟩ = some (.map (some bm)) := (blk_cell FZ.out 0).trans rfl
          by_cases hx : x < (l0.length : Int)
          · obtain ⟨ad, rfl, hce⟩ := Kd.at_int HR0.out x hx0 hx
            replace hce := (F3.out.cell (World.block_lt_of_cell? w _ hce)).trans hce
            have hpI := Aside0.mk (netI_plant HI.out x (by omega))
            have HS := Aside0.mk (Net.take_succ_getD l0 0 x.toNat (by omega))
            rw [show l0.getD x.toNat 0 = rd l0 x from rfl] at HS
            have hlen : ((l0.take x.toNat).length : Int) = x := by rw [List.length_take]; omega
            have HNM : Aside0 (rd l0 x ∉ l0.take x.toNat) := ⟨by
              have h1 : (l0.take (x.toNat + 1)).Nodup := hnd.sublist (List.take_sublist _ _)
              rw [HS.out] at h1
              exact (Net.nodup_snoc.1 h1).2⟩
            generalize rd l0 x = pp at *
            go_wp2_with (at_mapUpdate; refine pos_store rfl _ _ _ rfl bm _ _ rfl HP1.out (by omega) pp rfl hpI.out (by rw [hlen]; rfl) (by omega) HNM.out ?_; intro w1 hm1 hg1; have HM1 := Aside0.mk hm1; have HG1 := Aside0.mk hg1; clear hm1 hg1)
            go_roundw
            case rel =>
              have e1 : (x + 1).toNat = x.toNat + 1 := by omega
              have hne : ∀ {g : Nat} {cs : Array Value} {t : TypeId}, wr.heap[g]? = some (.cells cs t (0, 0)) → some g ≠ some bm := fun h e => HP1.out.ne_cells h (by injection e with e; exact e.symm)
              refine ⟨x + 1, by go_num, ⟨by omega⟩, ⟨?_⟩, ⟨blk_grown F2.out HG1.out (hne F2.out)⟩, ⟨blk_grown FZ.out HG1.out (hne FZ.out)⟩, ⟨?_⟩, ⟨F3.out.grown HG1.out F3.out.size (fun k e => by injection e with e; have := HBM.out; omega)⟩⟩
              · rw [e1, HS.out]; exact HM1.out
              · exact Kd.R_mono (Kd.R_grown (HP1.out.legs S3.out) HG1.out (fun k hk e => hk (by injection e))) (fun _ _ => trivial)
            case measure => simp [intOf]; omega
          · obtain rfl : x = (l0.length : Int) := by have := HX.out; omega
            rw [Int.toNat_natCast, List.take_length] at HP1
            have q1 : wr.cell? ⟨w.heap.size + 1, 0, none⟩ = some (.map none) := (blk_cell F2.out 0).trans rfl
            have q2 : wr.cell? ⟨w.heap.size + 1, 1, none⟩ = some (.int .i64 0) := (blk_cell F2.out 1).trans rfl
            have q3 : wr.cell? ⟨w.heap.size + 1, 2, none⟩ = some (.slice none 0 0) := (blk_cell F2.out 2).trans rfl
            have q4 := blk_frozen F2.out
            have q5 : wr.cell? ⟨g9, 1, none⟩ = some (.int .i64 l0.length) := (blk_cell FZ.out 1).trans rfl
            have q6 : wr.cell? ⟨g9, 2, none⟩ = some (.slice Av l1.length cv) := (blk_cell FZ.out 2).trans rfl
            go_wp2
            go_loopw [48] (fun i wq => ∃ x : Int, i = .int .i64 x ∧ Aside0 (0 ≤ x ∧ x ≤ lp.length) ∧ Aside0 (∀ p ∈ lp.take x.toNat, l0.contains p = true) ∧ wq = wr) (fun i _ => lp.length - (intOf i).toNat)
            case atStart => exact ⟨0, rfl, ⟨by omega⟩, ⟨by simp⟩, rfl⟩
            case round =>
              obtain ⟨x, rfl, HX, HA, rfl⟩ := hrel
              have hx0 : 0 ≤ x := HX.out.1
              by_cases hx : x < (lp.length : Int)
              · obtain ⟨ad, rfl, hce⟩ := Kd.at_int HRp.out x hx0 hx
                replace hce := (F3.out.cell (World.block_lt_of_cell? w _ hce)).trans hce
                have HS := Aside0.mk (Net.take_succ_getD lp 0 x.toNat (by omega))
                rw [show lp.getD x.toNat 0 = rd lp x from rfl] at HS
                have HMem : Aside0 (rd lp x ∈ lp) := ⟨by
                  unfold rd
                  rw [List.getD_eq_getElem?_getD, List.getElem?_eq_getElem (by omega)]
                  exact List.getElem_mem (by omega)⟩
                generalize rd lp x = pp at *
                have hpI := Aside0.mk (HP.out pp HMem.out)
                cases hcn : l0.contains pp with
                | true =>
                  have HCN := Aside0.mk hcn
                  clear hcn
                  go_wp2_with ((with_reducible refine gate_dst (N := 56) rfl ?_); refine pos_has rfl _ _ rfl bm _ _ rfl HP1.out pp rfl hpI.out ?_; rw [HCN.out])
                  go_roundw
                  case rel =>
                    have e1 : (x + 1).toNat = x.toNat + 1 := by omega
                    refine ⟨x + 1, by go_num, ⟨by omega⟩, ⟨?_⟩, (by first | rfl | trivial)⟩
                    rw [e1, HS.out]
                    intro p hp
                    rcases List.mem_append.1 hp with hp | hp
                    · exact HA.out p hp
                    · simp at hp; rw [hp]; exact HCN.out
                  case measure => simp [intOf]; omega
                | false =>
                  have HCN := Aside0.mk hcn
                  clear hcn
                  go_wp2_with ((with_reducible refine gate_dst (N := 56) rfl ?_); refine pos_has rfl _ _ rfl bm _ _ rfl HP1.out pp rfl hpI.out ?_; rw [HCN.out])
                  refine bodyPost_ret (results61 _ _ (w.heap.size + 1) zeroW 2 rfl rfl rfl ?_) rfl ⟨?_, 2, zeroW, rfl, ?_, fun _ => rfl, fun h => absurd h (by decide)⟩
                  · exact blk_put (cs' := zeroW) (blk_put (cs' := zeroW) (blk_put (cs' := zeroW) F2.out 0 _ rfl) 1 _ rfl) 2 _ rfl
                  · exact ((F3.out.setCell (by simp) _).setCell (by simp) _).setCell (by simp) _
                  · rw [HO.out, if_neg (by simp), if_neg]
                    intro h
                    simp only [Bool.and_eq_true, List.all_eq_true] at h
                    have := h.1.1 pp HMem.out
                    rw [HCN.out] at this
                    cases this
              · obtain rfl : x = (lp.length : Int) := by have := HX.out; omega
                rw [Int.toNat_natCast, List.take_length] at HA
                have hall : lp.all (fun p => l0.contains p) = true := List.all_eq_true.2 HA.out
                have HALL := Aside0.mk hall
                clear hall
                by_cases h0 : time < 0
                · go_wp2
                  refine bodyPost_ret (results61 _ _ (w.heap.size + 1) zeroW 2 rfl rfl rfl ?_) rfl ⟨?_, 2, zeroW, rfl, ?_, fun _ => rfl, fun h => absurd h (by decide)⟩
                  · exact blk_put (cs' := zeroW) (blk_put (cs' := zeroW) (blk_put (cs' := zeroW) F2.out 0 _ rfl) 1 _ rfl) 2 _ rfl
                  · exact ((F3.out.setCell (by simp) _).setCell (by simp) _).setCell (by simp) _
                  · rw [HO.out, if_neg (by simp), if_neg]
                    simp; omega
                · by_cases h1 : 1051898399 < time
                  · go_wp2
                    refine bodyPost_ret (results61 _ _ (w.heap.size + 1) zeroW 2 rfl rfl rfl ?_) rfl ⟨?_, 2, zeroW, rfl, ?_, fun _ => rfl, fun h => absurd h (by decide)⟩
                    · exact blk_put (cs' := zeroW) (blk_put (cs' := zeroW) (blk_put (cs' := zeroW) F2.out 0 _ rfl) 1 _ rfl) 2 _ rfl
                    · exact ((F3.out.setCell (by simp) _).setCell (by simp) _).setCell (by simp) _
                    · rw [HO.out, if_neg (by simp), if_neg]
                      simp; omega
                  · have hro : ro = 0 := by
                      rw [HO.out, if_neg (by simp), HALL.out, if_pos]
                      simp; omega
                    go_wp2
                    refine bodyPost_ret (results61 _ _ (w.heap.size + 1) #[.map (some bm), .int .i64 l0.length, .slice Av l1.length cv] 0 rfl rfl rfl ?_) rfl ⟨?_, 0, _, rfl, (by first | rfl | exact hro.symm), fun h => absurd rfl h, fun _ => ⟨bm, _, rfl, by have := HBM.out; omega, ?_, sl, S1.out, S2.out, ?_⟩⟩
                    · exact blk_put (cs' := #[.map (some bm), .int .i64 l0.length, .slice Av l1.length cv]) (blk_put (cs' := #[.map (some bm), .int .i64 l0.length, .slice none 0 0]) (blk_put (cs' := #[.map (some bm), .int .i64 0, .slice none 0 0]) F2.out 0 _ rfl) 1 _ rfl) 2 _ rfl
                    · exact ((F3.out.setCell (by simp) _).setCell (by simp) _).setCell (by simp) _
                    · exact (open_fin HP1.out F2.out S3.out F3.out (by omega)).1
                    · exact (open_fin HP1.out F2.out S3.out F3.out (by omega)).2.2.1
      | _ => exact hq3.elim
  · have hro : ro = re := by rw [HO.out, if_pos hre]
    subst hro
    have hne : (ro != 0) = true := by simp [hre]
    have he2 : ¬ (ro = 0) := hre
    go_enter Try.func61, Try.ntmps61
    go_wp2_with (go_at_call 55; refine (network_Valid.calls A0 c0 l0 A1 c1 l1 _ _ (Kd.C_below HR0.out (below_alloc (below_alloc (Below.refl _ _) _) _)) hc0 (Kd.C_below HR1.out (below_alloc (below_alloc (Below.refl _ _) _) _)) hc1 HV.out).mono ?_; rintro e w2 ⟨rfl, hb⟩; obtain ⟨k1, k2, k3⟩ := HBW.out w2 hb; have B1 := Aside0.mk k1; have B2 := Aside0.mk k2; have B3 := Aside0.mk k3; clear hb k1 k2 k3; have y0 : w2.cell? ⟨w.heap.size + 1, 0, none⟩ = some (.map none) := (blk_cell B2.out 0).trans rfl; have y1 : w2.cell? ⟨w.heap.size + 1, 1, none⟩ = some (.int .i64 0) := (blk_cell B2.out 1).trans rfl; have y2 : w2.cell? ⟨w.heap.size + 1, 2, none⟩ = some (.slice none 0 0) := (blk_cell B2.out 2).trans rfl; have f2 := blk_frozen B2.out; have z0 : w2.cell? ⟨w.heap.size, 0, none⟩ = some (.slice A0 l0.length c0) := (blk_cell B1.out 0).trans rfl; have z1 : w2.cell? ⟨w.heap.size, 1, none⟩ = some (.slice A1 l1.length c1) := (blk_cell B1.out 1).trans rfl)
    refine bodyPost_ret (results61 _ _ (w.heap.size + 1) zeroW ro rfl rfl rfl ?_) rfl ⟨?_, ro, zeroW, rfl, rfl, fun _ => rfl, fun h => absurd h hre⟩
    · exact blk_put (cs' := zeroW) (blk_put (cs' := zeroW) (blk_put (cs' := zeroW) B2.out 0 _ rfl) 1 _ rfl) 2 _ rfl
    · exact ((B3.out.setCell (by simp) _).setCell (by simp) _).setCell (by simp) _
end Go.Proofs.Ytdpadeklociinaa.PA
