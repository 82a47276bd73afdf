import Derived.Test.YtdpadeklociinaaHArrive
import Derived.Test.YtdpadeklociinaaHStep
import Derived.Test.YtdpadeklociinaaNAll
import Derived.Deep.RegionHeld3
set_option linter.unusedVariables false
set_option linter.unusedSimpArgs false
namespace Go.Proofs.Ytdpadeklociinaa.PA
open Go.RowKit Go.Maps Go.Proofs.YtdpadeklociinaaW.PrintWords Go.Proofs.YtdpadeklociinaaW.PrintLast Go.Proofs.YtdpadeklociinaaW.PrintMore Go.Proofs.Ytdpadeklociinaa

def way17.T : Bool × List (List Nat × List Nat) := (true, [([], []), ([], []), ([], []), ([], []), ([], []), ([], []), ([5], [5]), ([6], [6]), ([4, 7], [4, 7]), ([3, 8], [3, 8]), ([9], [9]), ([0, 1, 2, 10], [0, 1, 2, 10]), ([11], [11]), ([12], [12]), ([12], [12]), ([], []), ([], []), ([15, 13, 11, 0, 1, 2, 3, 4, 5, 6, 7, 8, 9, 10, 11, 12, 13, 15, 16], [13, 15]), ([16, 14, 17, 0, 1, 2, 3, 4, 5, 6, 7, 8, 9, 10, 11, 12, 13, 14, 15, 16, 17], [14, 16])])
def way17.B : List Nat := [0, 0, 0, 0, 0, 0, 32, 96, 240, 504, 1016, 2047, 4095, 8191, 8191, 0, 0, 114687, 262143]
theorem way17.tab : rtab .any (opsOf Try.f30 17) = way17.T := by kernel_rfl
theorem way17.bits : waitsOk way17.T.2 way17.B = true := by kernel_rfl
theorem put8 {w w' : World} {g8 : Nat} {o0 o1 o2 o3 o4 o5 o6 o7 : Value} (h8 : w.heap[g8]? = some (.cells #[o0, o1, o2, o3, o4, o5, o6, o7] 23 (0, 0))) (a0 a1 a2 a3 a4 a5 a6 a7 : Int)
    (hw : w' = ((((((((w.setCell ⟨g8, 0, none⟩ (.int .i64 a0)).setCell ⟨g8, 1, none⟩ (.int .i64 a1)).setCell ⟨g8, 2, none⟩ (.int .i64 a2)).setCell ⟨g8, 3, none⟩ (.int .i64 a3)).setCell ⟨g8, 4, none⟩ (.int .i64 a4)).setCell ⟨g8, 5, none⟩ (.int .i64 a5)).setCell ⟨g8, 6, none⟩ (.int .i64 a6)).setCell ⟨g8, 7, none⟩ (.int .u8 a7))) :
    w'.heap[g8]? = some (.cells #[.int .i64 a0, .int .i64 a1, .int .i64 a2, .int .i64 a3, .int .i64 a4, .int .i64 a5, .int .i64 a6, .int .u8 a7] 23 (0, 0)) ∧ (∀ b, b ≠ g8 → w'.heap[b]? = w.heap[b]?) ∧ ∀ B u, Below B u w → B ≤ g8 → Below B u w' := by
  subst hw
  refine ⟨?_, fun b hb => ?_, fun B u hb h1 => ((((((((hb.setCell h1 _).setCell h1 _).setCell h1 _).setCell h1 _).setCell h1 _).setCell h1 _).setCell h1 _).setCell h1 _)⟩
  · have p0 := blk_put (cs' := #[.int .i64 a0, o1, o2, o3, o4, o5, o6, o7]) h8 0 (.int .i64 a0) rfl
    have p1 := blk_put (cs' := #[.int .i64 a0, .int .i64 a1, o2, o3, o4, o5, o6, o7]) p0 1 (.int .i64 a1) rfl
    have p2 := blk_put (cs' := #[.int .i64 a0, .int .i64 a1, .int .i64 a2, o3, o4, o5, o6, o7]) p1 2 (.int .i64 a2) rfl
    have p3 := blk_put (cs' := #[.int .i64 a0, .int .i64 a1, .int .i64 a2, .int .i64 a3, o4, o5, o6, o7]) p2 3 (.int .i64 a3) rfl
    have p4 := blk_put (cs' := #[.int .i64 a0, .int .i64 a1, .int .i64 a2, .int .i64 a3, .int .i64 a4, o5, o6, o7]) p3 4 (.int .i64 a4) rfl
    have p5 := blk_put (cs' := #[.int .i64 a0, .int .i64 a1, .int .i64 a2, .int .i64 a3, .int .i64 a4, .int .i64 a5, o6, o7]) p4 5 (.int .i64 a5) rfl
    have p6 := blk_put (cs' := #[.int .i64 a0, .int .i64 a1, .int .i64 a2, .int .i64 a3, .int .i64 a4, .int .i64 a5, .int .i64 a6, o7]) p5 6 (.int .i64 a6) rfl
    exact blk_put (cs' := #[.int .i64 a0, .int .i64 a1, .int .i64 a2, .int .i64 a3, .int .i64 a4, .int .i64 a5, .int .i64 a6, .int .u8 a7]) p6 7 (.int .u8 a7) rfl
  · have f : ∀ (x : World) (i : Nat) (v : Value), (x.setCell ⟨g8, i, none⟩ v).heap[b]? = x.heap[b]? := fun x i v => Below.heap_setCell x ⟨g8, i, none⟩ v b hb
    rw [f, f, f, f, f, f, f, f]
theorem put2 {w w' : World} {g9 : Nat} {o0 o1 : Value} (h9 : w.heap[g9]? = some (.cells #[o0, o1] 114 (0, 0))) (a b : Int) (hw : w' = ((w.setCell ⟨g9, 0, none⟩ (.int .i64 a)).setCell ⟨g9, 1, none⟩ (.int .i64 b))) :
    w'.heap[g9]? = some (.cells #[.int .i64 a, .int .i64 b] 114 (0, 0)) ∧ (∀ b, b ≠ g9 → w'.heap[b]? = w.heap[b]?) ∧ ∀ B u, Below B u w → B ≤ g9 → Below B u w' := by
  subst hw
  refine ⟨?_, fun b' hb => ?_, fun B u hb h1 => ((hb.setCell h1 _).setCell h1 _)⟩
  · have p0 := blk_put (cs' := #[.int .i64 a, o1]) h9 0 (.int .i64 a) rfl
    exact blk_put (cs' := #[.int .i64 a, .int .i64 b]) p0 1 (.int .i64 b) rfl
  · have f : ∀ (x : World) (i : Nat) (v : Value), (x.setCell ⟨g9, i, none⟩ v).heap[b']? = x.heap[b']? := fun x i v => Below.heap_setCell x ⟨g9, i, none⟩ v b' hb
    rw [f, f]
theorem gway_max {S : List Net.Leg} {p t : Int} {ls : List Net.Leg} {q b : Int} (h : Net.Gway S p t ls q b) (ht : t ≤ 1051898399) : b ≤ 1051898399 := by
  induction h with
  | nil => exact ht
  | cons _ h2 _ ih => exact ih (Net.next_lt h2).2.2.2.1
theorem range_below {w w' : World} {g off : Nat} {R : List Int} (h : w.rangeAt g off (rowL R)) (hb : Below w.heap.size w w') : w'.rangeAt g off (rowL R) := by
  intro j v hj
  have h1 := h j v hj
  exact (hb.cell (World.block_lt_of_cell? w _ h1)).trans h1
/-- What stands while a way is sought: the boxed world, the plants' places, the legs. -/
structure WayW (bm n Bw B : Nat) (l0 : List Int) (Av : Option Addr) (cv : Nat) (sl : List S23) (w W : World) : Prop where
  blk : W.heap[Bw]? = some (.cells #[.map (some bm), .int .i64 n, .slice Av sl.length cv] 106 (0, 0))
  pos : PosIs W bm n l0
  legs : Kd.C k23 W Av sl.length sl
  below : Below B w W
theorem WayW.next {bm n Bw B : Nat} {l0 : List Int} {Av : Option Addr} {cv : Nat} {sl : List S23} {w W W' : World} (h : WayW bm n Bw B l0 Av cv sl w W) (hb : Below W.heap.size W W') (hB : B ≤ W.heap.size) : WayW bm n Bw B l0 Av cv sl w W' where
  blk := blk_below h.blk hb
  pos := h.pos.below hb
  legs := Kd.C_below h.legs hb
  below := below_then h.below hB hb
/-- The rows of a search lie in memory. -/
def RowsAt (W : World) (g : Nat) (rows : Nat → List Int) (k : Nat) : Prop := ∀ i, i ≤ k → W.rangeAt g (i * 50) (rowL (rows i))
theorem RowsAt.next {W W' : World} {g k : Nat} {rows : Nat → List Int} (h : RowsAt W g rows k) (hb : Below W.heap.size W W') : RowsAt W' g rows k := fun i hi => range_below (h i hi) hb
theorem RowsAt.cell {W : World} {g k : Nat} {rows : Nat → List Int} (h : RowsAt W g rows k) {i q : Nat} (hi : i ≤ k) (hq : q < (rows i).length) : W.cell? ⟨g, i * 50 + q, none⟩ = some (.int .i64 ((rows i).getD q 0)) := by
  refine h i hi q _ ?_
  unfold rowL
  rw [List.getElem?_map, List.getD_eq_getElem?_getD, List.getElem?_eq_getElem hq]
  rfl
theorem rows_at {W : World} {B g cap k : Nat} {ok : Nat → Prop} {f : Nat → List Int} (h : Kd.R k112 112 W B ok (.slice (some ⟨g, 0, none⟩) (k + 1) cap) ((List.range (k + 1)).map f)) : RowsAt W g f k := by
  intro i hi
  have hlen : ((List.range (k + 1)).map f).length = k + 1 := by simp
  have := (rows_elem (by rw [hlen]; exact h) i (by rw [hlen]; omega)).2
  rw [List.getD_eq_getElem?_getD, List.getElem?_map, List.getElem?_range (by omega)] at this
  exact this
theorem step_n (pl : List Int) (sl : List S23) (bm n m : Nat) (Al : Option Addr) (cl : Nat) (p t : Int) (late : Net.Row) (RL : List Int) (w : World) (hRL : RL = rowOf Net.encN pl late) (hm' : sl.length = m) (h50 : pl.length ≤ 50)
    (hsl : ∀ x ∈ sl, legI x = true ∧ x.f1 ∈ pl ∧ x.f2 ∈ pl) (hln : sl.length ≤ 200) (hm : PosIs w bm n pl) (hR : Kd.C k23 w Al sl.length sl) :
    Calls Try.prog 65 #[.agg #[.map (some bm), .int .i64 n, .slice Al m cl], .int .i64 p, .int .i64 t, rowV RL] w fun e w' => e = .returned (resS (pickS p t late sl)) ∧ Below w.heap.size w w' := by
  subst hRL
  subst hm'
  exact step.calls pl sl bm n n Al cl p t late w h50 hsl hln hm hR
theorem step_z (pl : List Int) (sl : List S23) (bm n m : Nat) (Al : Option Addr) (cl : Nat) (p t : Int) (late : Net.Row) (RL : List Int) (z0 z1 z2 z3 z4 z5 z6 z7 d : Int) (w : World) (hz : pickS p t late sl = some (⟨z0, z1, z2, z3, z4, z5, z6, z7⟩, d)) (hRL : RL = rowOf Net.encN pl late) (hm' : sl.length = m) (h50 : pl.length ≤ 50)
    (hsl : ∀ x ∈ sl, legI x = true ∧ x.f1 ∈ pl ∧ x.f2 ∈ pl) (hln : sl.length ≤ 200) (hm : PosIs w bm n pl) (hR : Kd.C k23 w Al sl.length sl) :
    Calls Try.prog 65 #[.agg #[.map (some bm), .int .i64 n, .slice Al m cl], .int .i64 p, .int .i64 t, rowV RL] w fun e w' => e = .returned (.tuple #[.agg #[.int .i64 z0, .int .i64 z1, .int .i64 z2, .int .i64 z3, .int .i64 z4, .int .i64 z5, .int .i64 z6, .int .u8 z7], .agg #[.int .i64 d, .int .i64 (d + z4)]]) ∧ Below w.heap.size w w' := by
  have := step_n pl sl bm n m Al cl p t late RL w hRL hm' h50 hsl hln hm hR
  rw [hz] at this
  exact this
/-- What is held while a stop is sought. -/
theorem WayW.cells {bm n Bw B : Nat} {l0 : List Int} {Av : Option Addr} {cv : Nat} {sl : List S23} {w W : World} (h : WayW bm n Bw B l0 Av cv sl w W) : W.cell? ⟨Bw, 0, none⟩ = some (.map (some bm)) ∧ W.cell? ⟨Bw, 1, none⟩ = some (.int .i64 n) ∧ W.cell? ⟨Bw, 2, none⟩ = some (.slice Av sl.length cv) :=
  ⟨(blk_cell h.blk 0).trans rfl, (blk_cell h.blk 1).trans rfl, (blk_cell h.blk 2).trans rfl⟩
theorem ne_new {w w' : World} {b : Nat} (h : b < w.heap.size) (hb : Below w.heap.size w w') : w'.heap.size ≠ b := by have := hb.size; omega
theorem ne_new1 {w w' : World} {b : Nat} (h : b < w.heap.size) (hb : Below w.heap.size w w') : w'.heap.size + 1 ≠ b := by have := hb.size; omega
theorem held_alloc {W : World} {a0 a1 a2 : Addr} {A B C : Value} {g off : Nat} {R : List Int} (h : W.cell? a0 = some A ∧ W.cell? a1 = some B ∧ W.cell? a2 = some C ∧ W.rangeAt g off (rowL R)) (o : Obj) :
    (W.alloc o).cell? a0 = some A ∧ (W.alloc o).cell? a1 = some B ∧ (W.alloc o).cell? a2 = some C ∧ (W.alloc o).rangeAt g off (rowL R) := by
  have hb : Below W.heap.size W (W.alloc o) := below_alloc (Below.refl _ _) o
  exact ⟨(hb.cell (World.block_lt_of_cell? W _ h.1)).trans h.1, (hb.cell (World.block_lt_of_cell? W _ h.2.1)).trans h.2.1, (hb.cell (World.block_lt_of_cell? W _ h.2.2.1)).trans h.2.2.1, range_below h.2.2.2 hb⟩
theorem held_set {W : World} {Bw : Nat} {A B C : Value} {g off : Nat} {R : List Int} {b i : Nat} {v : Value} (h : W.cell? ⟨Bw, 0, none⟩ = some A ∧ W.cell? ⟨Bw, 1, none⟩ = some B ∧ W.cell? ⟨Bw, 2, none⟩ = some C ∧ W.rangeAt g off (rowL R)) (h1 : b ≠ Bw) (h2 : b ≠ g) :
    (W.setCell ⟨b, i, none⟩ v).cell? ⟨Bw, 0, none⟩ = some A ∧ (W.setCell ⟨b, i, none⟩ v).cell? ⟨Bw, 1, none⟩ = some B ∧ (W.setCell ⟨b, i, none⟩ v).cell? ⟨Bw, 2, none⟩ = some C ∧ (W.setCell ⟨b, i, none⟩ v).rangeAt g off (rowL R) :=
  ⟨cell_set_far h.1 h1, cell_set_far h.2.1 h1, cell_set_far h.2.2.1 h1, fun j u hj => cell_set_far (h.2.2.2 j u hj) h2⟩
theorem blk_new1 (w : World) (o : Obj) (cs : Array Value) (t : TypeId) : ((w.alloc o).alloc (.cells cs t)).heap[w.heap.size + 1]? = some (.cells cs t (0, 0)) := by
  have := blk_new (w.alloc o) (.cells cs t)
  simpa using this
theorem cells23 {w : World} {g : Nat} {v0 v1 v2 v3 v4 v5 v6 v7 : Value} (h : w.heap[g]? = some (.cells #[v0, v1, v2, v3, v4, v5, v6, v7] 23 (0, 0))) : w.cell? ⟨g, 0, none⟩ = some v0 ∧ w.cell? ⟨g, 1, none⟩ = some v1 ∧ w.cell? ⟨g, 2, none⟩ = some v2 ∧ w.cell? ⟨g, 3, none⟩ = some v3 ∧ w.cell? ⟨g, 4, none⟩ = some v4 ∧ w.cell? ⟨g, 5, none⟩ = some v5 ∧ w.cell? ⟨g, 6, none⟩ = some v6 ∧ w.cell? ⟨g, 7, none⟩ = some v7 :=
  ⟨(blk_cell h 0).trans rfl, (blk_cell h 1).trans rfl, (blk_cell h 2).trans rfl, (blk_cell h 3).trans rfl, (blk_cell h 4).trans rfl, (blk_cell h 5).trans rfl, (blk_cell h 6).trans rfl, (blk_cell h 7).trans rfl⟩
theorem cells114 {w : World} {g : Nat} {v0 v1 : Value} (h : w.heap[g]? = some (.cells #[v0, v1] 114 (0, 0))) : w.cell? ⟨g, 0, none⟩ = some v0 ∧ w.cell? ⟨g, 1, none⟩ = some v1 := ⟨(blk_cell h 0).trans rfl, (blk_cell h 1).trans rfl⟩
theorem held_drew {W : World} {a0 a1 a2 : Addr} {A B C : Value} {g off : Nat} {R : List Int} (h : W.cell? a0 = some A ∧ W.cell? a1 = some B ∧ W.cell? a2 = some C ∧ W.rangeAt g off (rowL R)) :
    W.drew.cell? a0 = some A ∧ W.drew.cell? a1 = some B ∧ W.drew.cell? a2 = some C ∧ W.drew.rangeAt g off (rowL R) := h
theorem bwd_good {S : List Net.Leg} {q t : Int} (h0 : 0 ≤ t) (h1 : t ≤ 1051898399) : ∀ (k : Nat) (x v : Int), Net.bwd S q t k x = some v → GB v
  | 0, x, v, h => by
    have h' : Net.start q (-t) x = some v := h
    unfold Net.start at h'
    split at h'
    · injection h' with h'; unfold GB; omega
    · cases h'
  | k + 1, x, v, h => by
    rcases Net.step_only (show Net.step (S.map (Net.bedge (-t + 86400))) (Net.rows (S.map (Net.bedge (-t + 86400))) (Net.start q (-t)) k) x = some v from h) with h | ⟨e, he, _, t', _, hg⟩
    · exact bwd_good h0 h1 k x v h
    · obtain ⟨l, _, rfl⟩ := List.mem_map.1 he
      obtain ⟨d, g1, _, g3⟩ := Net.bedge_g.1 hg
      have := last_bounds g1
      unfold GB
      omega
/-- The leg that step returns is the leg that is picked. -/
theorem pickS_of {sl : List S23} {S : List Net.Leg} (hS : sl.map toLeg = S) {p t : Int} {late : Net.Row} (hG : ∀ q v, late q = some v → GB v) {l : Net.Leg} {d : Int} (h : Net.pick S p t late = some (l, d)) : ∃ x, pickS p t late sl = some (x, d) ∧ toLeg x = l ∧ x ∈ sl := by
  have h1 := pickS_pick p t late hG sl
  rw [hS, h] at h1
  cases h2 : pickS p t late sl with
  | none => rw [h2] at h1; cases h1
  | some q =>
    obtain ⟨x, d'⟩ := q
    rw [h2] at h1
    simp only [Option.map_some, Option.some.injEq, Prod.mk.injEq] at h1
    obtain ⟨h3, rfl⟩ := h1
    refine ⟨x, rfl, h3, ?_⟩
    clear h3 h
    revert h2
    clear hS hG
    induction sl with
    | nil => intro h; cases h
    | cons y sl ih =>
      intro h
      unfold pickS at h
      cases ht : takeS p t late y with
      | some d => rw [ht] at h; injection h with h; injection h with h _; subst h; exact List.mem_cons_self
      | none => rw [ht] at h; exact List.mem_cons_of_mem _ (ih h)

set_option maxRecDepth 100000 in
set_option maxHeartbeats 40000000 in
theorem route_Way.calls (A0_0 : Option Addr) (c0_0 : Nat) (l0_0 : List Int) (A0_1 : Option Addr) (c0_1 : Nat) (l0_1 : List S23) (a1 : Int) (a2 : Int) (a3 : Int) (r1 : List S45) (r2 : Int) (w : World) (hr0_0 : Kd.C (Kd.int .i64) w A0_0 l0_0.length l0_0) (hc0_0 : l0_0.length ≤ c0_0) (hr0_1 : Kd.C k23 w A0_1 l0_1.length l0_1) (hc0_1 : l0_1.length ≤ c0_1) (h : route_Way.f l0_0 l0_1 a1 a2 a3 = some (r1, r2)) :
    Calls Try.prog 30 #[.agg #[.slice A0_0 l0_0.length c0_0, .slice A0_1 l0_1.length c0_1], .int .i64 a1, .int .i64 a2, .int .i64 a3] w fun e w' => ∃ v0_ : Value, e = .returned (.tuple #[v0_, .int .i64 r2]) ∧ Kd.R k45 45 w' w.heap.size (fun _ => True) v0_ r1 ∧ Below w.heap.size w w' := by
  unfold route_Way.f at h
  split at h
  case isFalse => cases h
  case isTrue hb =>
  obtain ⟨hI, hi1, hi2, hi3⟩ := hb
  have H := Aside0.mk (Option.some.inj h)
  clear h
  have HR0 := Aside0.mk hr0_0
  have HR1 := Aside0.mk hr0_1
  have HI := Aside0.mk hI
  have HI1 := Aside0.mk (I64B_iff.1 hi1)
  have HI2 := Aside0.mk (I64B_iff.1 hi2)
  have HI3 := Aside0.mk (I64B_iff.1 hi3)
  clear hr0_0 hr0_1 hI hi1 hi2 hi3
  -- the world in which open is called
  obtain ⟨w1, hw1⟩ : ∃ w1, w1 = (w.alloc (.cells #[.slice A0_0 l0_0.length c0_0, .slice A0_1 l0_1.length c0_1] 29)).alloc (.cells #[.int .i64 a1, .int .i64 a2] 3) := ⟨_, rfl⟩
  have B3 : Aside0 (Below w.heap.size w w1) := ⟨by rw [hw1]; exact ((Below.refl _ _).alloc (Nat.le_refl _) _).alloc (by simp) _⟩
  have HC : Aside0 (Kd.C (Kd.int .i64) w1 (some ⟨w.heap.size + 1, 0, none⟩) [a1, a2].length [a1, a2]) := ⟨by
    have hbk := blk_new (w.alloc (.cells #[.slice A0_0 l0_0.length c0_0, .slice A0_1 l0_1.length c0_1] 29)) (.cells #[.int .i64 a1, .int .i64 a2] 3)
    simp only [World.size_alloc] at hbk
    refine ⟨rfl, by simp, fun _ => ⟨_, rfl, fun j p hj => ⟨[.int .i64 p], rfl, rfl, fun i u hu => ?_⟩⟩⟩
    match j, hj with
    | 0, hj =>
      match i, hu with
      | 0, hu =>
        simp at hj hu
        subst hj hu
        rw [hw1]
        exact (blk_cell hbk 0).trans rfl
    | 1, hj =>
      match i, hu with
      | 0, hu =>
        simp at hj hu
        subst hj hu
        rw [hw1]
        exact (blk_cell hbk 1).trans rfl⟩
  have HO := open.calls A0_0 c0_0 l0_0 A0_1 c0_1 l0_1 a3 (some ⟨w.heap.size + 1, 0, none⟩) 2 [a1, a2] w1 (Kd.C_below HR0.out B3.out) hc0_0 (Kd.C_below HR1.out B3.out) hc0_1 HC.out (by simp) (by simp) HI.out (fun p hp => by
    simp at hp
    rcases hp with rfl | rfl
    · exact HI1.out
    · exact HI2.out) HI3.out
  rw [show [a1, a2].length = 2 from rfl] at HO
  by_cases he : (netOf l0_0 l0_1).openErr a3 [a1, a2] = 0
  · rw [if_pos he] at H
    obtain ⟨hv, hps, ht0, ht1⟩ := openErr_ok he
    have hp1 : a1 ∈ l0_0 := hps a1 (by simp)
    have hp2 : a2 ∈ l0_0 := hps a2 (by simp)
    have h50 : l0_0.length ≤ 50 := hv.many
    have hnd : l0_0.Nodup := hv.nodup
    have hl200 : l0_1.length ≤ 200 := by have := hv.manyL; simpa [netOf] using this
    have HVV := Aside0.mk hv
    rw [he] at HO
    clear he hps hv
    have HOO := Aside0.mk HO
    have HIN := Aside0.mk hnd
    clear HO hnd
    go_enter Try.func30, Try.ntmps30
    go_wp2_with (first | (go_at_call 61; rw [← hw1]; refine HOO.out.mono ?_; rintro e w2 ⟨hb, er', V, rfl, rfl, h3, h4⟩; obtain ⟨bm, vl, rfl, hbm, hP, sl, s1, s2, s3⟩ := h4 rfl; obtain ⟨Av, cv, rfl⟩ := Kd.R_slice s3; have HB := Aside0.mk (below_then B3.out B3.out.size hb); have HP := Aside0.mk hP; have S1 := Aside0.mk s1; have S2 := Aside0.mk s2; have S3 := Aside0.mk s3; clear hb h3 h4 hP s1 s2 s3 hbm) | (go_at_call 62; refine (forward.calls l0_0 sl (netOf l0_0 l0_1).S (sorted_S HVV.out S1.out S2.out) bm l0_0.length l0_0.length Av cv a1 a3 _ HIN.out h50 hp1 HI1.out ht0 ht1 (legs_ok HVV.out HI.out S1.out) (by rw [S1.out.length_eq]; exact hl200) (Kd.R_reads' S3.out).2.1 (HP.out.alloc _) (Kd.C_below (Kd.R_reads' S3.out).2.2 (below_alloc (Below.refl _ _) _))).mono ?_; rintro e w3 ⟨v, rfl, k, f1, f2, f3, f4⟩; have E1 := Aside0.mk f1; have E2 := Aside0.mk f2; have E4 := Aside0.mk f4; clear f1 f2 f4))
    have hlen : ((List.range (k + 1)).map fun j => rowOf Net.enc l0_0 (Net.fwd (netOf l0_0 l0_1).S a1 a3 j)).length = k + 1 := by simp
    obtain ⟨g, cap, ev, hgb, hglt⟩ := Kd.R_form E1.out (by rw [hlen]; omega)
    subst ev
    rw [hlen] at E1 ⊢
    have RA := Aside0.mk (rows_at E1.out)
    have WW := Aside0.mk (WayW.mk (B := w.heap.size) (w := w) (blk_below (blk_new w2 (.cells #[.map (some bm), .int .i64 l0_0.length, .slice Av sl.length cv] 106)) E2.out) ((HP.out.alloc _).below E2.out) (Kd.C_below (Kd.C_below (Kd.R_reads' S3.out).2.2 (below_alloc (Below.refl _ _) _)) E2.out) (below_then (HB.out.alloc HB.out.size _) (by have := HB.out.size; simp; omega) E2.out))
    have hB2 := Aside0.mk HB.out.size
    have HLO := Aside0.mk (legs_ok HVV.out HI.out S1.out)
    have HCV := Aside0.mk (Kd.R_reads' S3.out).2.1
    have hsl200 : sl.length ≤ 200 := by rw [S1.out.length_eq]; exact hl200
    have hS := Aside0.mk (sorted_S HVV.out S1.out S2.out)
    have hfl := Aside0.mk (fwd_last HVV.out hp1 E4.out)
    clear hlen E1 E2 HP S1 S2 S3 HB hgb hglt
    generalize w2.heap.size = Bw at *
    obtain ⟨q0, q1, q2⟩ := posOf_lt hp2
    have hcolE := fun i => rowOf_at (ef := Net.enc) hp2 h50 (Net.fwd (netOf l0_0 l0_1).S a1 a3 i)
    have hcolL := fun r => rowOf_at (ef := Net.encN) hp2 h50 r
    have hq50 : (posOf l0_0 a2).toNat < 50 := by omega
    have hqq : posOf l0_0 a2 = ((posOf l0_0 a2).toNat : Int) := by omega
    have HM := Aside0.mk hqq
    clear q0 q1 q2 hqq
    generalize (posOf l0_0 a2).toNat = q at hcolE hcolL hq50 HM
    have HCE := Aside0.mk hcolE
    clear hcolE hcolL
    have c43 : w3.cell? ⟨Bw, 0, none⟩ = some (.map (some bm)) := (blk_cell WW.out.blk 0).trans rfl
    have l45 := fun k => MapIs.run (WW.out.pos.map.drewN k) HI2.out
    rw [HM.out] at l45
    have c48 := RA.out.cell (Nat.le_refl k) (q := q) (by rw [rowOf_length]; exact hq50)
    rw [HCE.out k, hfl.out] at c48
    have hk0 : (0 : Int) ≤ k := by omega
    have hk1 : (k : Int) < ((k + 1 : Nat) : Int) := by omega
    have hk2 : (k : Int) < (k : Int) + 1 := by omega
    have hk3 : (k : Int) ≤ 50 := by omega
    have hw1 : IntKind.i64.wrap (((k + 1 : Nat) : Int) - 1) = k := by rw [IntKind.wrap_i64]; omega
    have hw2 : IntKind.i64.wrap ((k : Int) + 1 - 1) = k := by rw [IntKind.wrap_i64]; omega
    have hw3 : IntKind.i64.wrap (k : Int) = k := by rw [IntKind.wrap_i64]; omega
    go_quiet (fail)
    clear l45 c43 c48 hk0 hk1 hk2 hw1 hw2 hw3
    cases hea : (netOf l0_0 l0_1).early a1 a3 a2 with
    | none =>
      rw [hea] at H
      obtain ⟨rfl, rfl⟩ : r1 = [] ∧ r2 = 6 := by have := H.out; simp only [Prod.mk.injEq] at this; exact ⟨this.1.symm, this.2.symm⟩
      rw [show Net.enc none = -1 from rfl]
      go_wp2
      go_ret2
      exact ⟨_, rfl, Kd.R_nil _ _ _ _ _, pw_below_drewN WW.out.below _⟩
    | some e =>
      rw [hea] at H
      obtain ⟨rfl, rfl⟩ : r1 = ((netOf l0_0 l0_1).way a1 a2 a3 e).map stopOf ∧ r2 = 0 := by have := H.out; simp only [Prod.mk.injEq] at this; exact ⟨this.1.symm, this.2.symm⟩
      rw [show Net.enc (some e) = e from rfl]
      have hes : a3 ≤ e ∧ e ≤ 1051898399 := by
        obtain ⟨ls, _, hg, _, h1⟩ := Net.Nw.early_sound hea
        exact ⟨h1, gway_max hg ht1⟩
      have hen : ¬ e < 0 := by omega
      obtain ⟨hbest, hbl, hbs⟩ := HVV.out.best hp1 hea
      obtain ⟨st, hstE⟩ : ∃ st, st = (netOf l0_0 l0_1).stops a1 a2 a3 e := ⟨_, rfl⟩
      have hst : Net.fwd (netOf l0_0 l0_1).S a1 a3 st a2 = some e ∧ (∀ j, j < st → Net.fwd (netOf l0_0 l0_1).S a1 a3 j a2 ≠ some e) := by
        obtain ⟨k1, k2, k3⟩ := Net.firstK_spec (fun k => decide (Net.fwd (netOf l0_0 l0_1).S a1 a3 k a2 = some e)) (netOf l0_0 l0_1).plants.length 0 (by simpa [Net.Nw.early] using hea)
        have e1 : Net.firstK (fun k => decide (Net.fwd (netOf l0_0 l0_1).S a1 a3 k a2 = some e)) (netOf l0_0 l0_1).plants.length 0 = st := hstE.symm
        rw [e1] at k1 k2
        simp only [decide_eq_true_eq, decide_eq_false_iff_not] at k1 k2
        exact ⟨k1, fun j hj => k2 j (Nat.zero_le _) hj⟩
      have hstk : st ≤ k := by
        rcases Nat.lt_or_ge k st with h | h
        · exact absurd (by rw [hfl.out, hea]) (hst.2 k h)
        · exact h
      have HST := Aside0.mk hst
      have HSTE := Aside0.mk hstE
      have HBEST := Aside0.mk hbest
      have HBL := Aside0.mk hbl
      have HEA := Aside0.mk hea
      clear hst hstE hbest hbl hbs hea H
      obtain ⟨w4, hw4⟩ : ∃ w4, w4 = w3.drewN nq := ⟨_, rfl⟩
      have WW4 : Aside0 (WayW bm l0_0.length Bw w.heap.size l0_0 Av cv sl w w4) := ⟨by rw [hw4]; exact WW.out.next (pw_below_drewN (Below.refl _ _) _) WW.out.below.size⟩
      have RA4 : Aside0 (RowsAt w4 g (fun j => rowOf Net.enc l0_0 (Net.fwd (netOf l0_0 l0_1).S a1 a3 j)) k) := ⟨by rw [hw4]; exact RA.out.next (pw_below_drewN (Below.refl _ _) _)⟩
      rw [← hw4]
      clear hw4 WW RA
      go_wp2_with fail
      go_loopw [14] (fun i wr => ∃ x : Nat, i = .int .i64 (x : Int) ∧ Aside0 (x ≤ st) ∧ Aside0 (WayW bm l0_0.length Bw w.heap.size l0_0 Av cv sl w wr) ∧ Aside0 (RowsAt wr g (fun j => rowOf Net.enc l0_0 (Net.fwd (netOf l0_0 l0_1).S a1 a3 j)) k)) (fun i _ => st - (intOf i).toNat)
      case atStart => exact ⟨0, rfl, ⟨Nat.zero_le _⟩, WW4, RA4⟩
      case round =>
        obtain ⟨x, rfl, HX, WR, RR⟩ := hrel
        clear WW4 RA4
        have c54 : wr.cell? ⟨Bw, 0, none⟩ = some (.map (some bm)) := (blk_cell WR.out.blk 0).trans rfl
        have l56 := fun k => MapIs.run (WR.out.pos.map.drewN k) HI2.out
        rw [HM.out] at l56
        have c59 := RR.out.cell (show x ≤ k by have := HX.out; omega) (q := q) (by rw [rowOf_length]; exact hq50)
        rw [HCE.out x] at c59
        have hx0 : (0 : Int) ≤ x := by omega
        have hx1 : (x : Int) < ((k + 1 : Nat) : Int) := by have := HX.out; omega
        have hx2 : (x : Int) < (k : Int) + 1 := by have := HX.out; omega
        by_cases hx : x = st
        · subst hx
          rw [HST.out.1, show Net.enc (some e) = e from rfl] at c59
          go_wp2_with fail
          go_quiet (fail)
          clear c54 l56 c59
          obtain ⟨w5, hw5⟩ : ∃ w5, w5 = wr.drewN nq := ⟨_, rfl⟩
          have W5 : Aside0 (WayW bm l0_0.length Bw w.heap.size l0_0 Av cv sl w w5) := ⟨by rw [hw5]; exact WR.out.next (pw_below_drewN (Below.refl _ _) _) WR.out.below.size⟩
          rw [← hw5]
          clear hw5 WR RR
          have d0 : w5.cell? ⟨Bw, 0, none⟩ = some (.map (some bm)) := (blk_cell W5.out.blk 0).trans rfl
          have d1 : w5.cell? ⟨Bw, 1, none⟩ = some (.int .i64 l0_0.length) := (blk_cell W5.out.blk 1).trans rfl
          have d2 : w5.cell? ⟨Bw, 2, none⟩ = some (.slice Av sl.length cv) := (blk_cell W5.out.blk 2).trans rfl
          go_wp2_with (first | (go_at_call 64; refine (backward.calls l0_0 sl (netOf l0_0 l0_1).S hS.out bm l0_0.length l0_0.length Av cv a2 e _ HIN.out h50 hp2 HI2.out ?h0 hes.2 HLO.out hsl200 HCV.out W5.out.pos W5.out.legs).mono ?_; (case h0 => omega); rintro en w6 ⟨v, rfl, k', f1, f2, f3, f4⟩; have F1 := Aside0.mk f1; have F2 := Aside0.mk f2; have F4 := Aside0.mk f4; clear f1 f2 f4))
          have hlen' : ((List.range (k' + 1)).map fun j => rowOf Net.encN l0_0 (Net.bwd (netOf l0_0 l0_1).S a2 e j)).length = k' + 1 := by simp
          obtain ⟨g', cap', ev, hgb', hglt'⟩ := Kd.R_form F1.out (by rw [hlen']; omega)
          subst ev
          rw [hlen'] at F1 ⊢
          have RB := Aside0.mk (rows_at F1.out)
          have W6 := Aside0.mk (W5.out.next F2.out W5.out.below.size)
          clear hlen' F1 F2 W5 d0 d1 d2 hgb' hglt'
          have WAY0 : Aside0 ((netOf l0_0 l0_1).way a1 a2 a3 e = [] ++ Net.steps (netOf l0_0 l0_1).S (Net.bwd (netOf l0_0 l0_1).S a2 e) x a1 a3) := ⟨by rw [HSTE.out]; rfl⟩
          have LEN0 : Aside0 ((Net.steps (netOf l0_0 l0_1).S (Net.bwd (netOf l0_0 l0_1).S a2 e) x a1 a3).length = x) := ⟨by have := HBL.out; rw [← HSTE.out] at this; rw [WAY0.out] at this; exact this⟩
          go_loopw [16, 17, 18, 19] (fun vo va vt vl wr => ∃ (m : Nat) (done : List (Net.Leg × Int)) (p t : Int), va = .int .i64 p ∧ vt = .int .i64 t ∧ vl = .int .i64 ((m : Int) - 1) ∧ Aside0 (done.length + m = x) ∧ Aside0 ((netOf l0_0 l0_1).way a1 a2 a3 e = done ++ Net.steps (netOf l0_0 l0_1).S (Net.bwd (netOf l0_0 l0_1).S a2 e) m p t) ∧ Aside0 ((Net.steps (netOf l0_0 l0_1).S (Net.bwd (netOf l0_0 l0_1).S a2 e) m p t).length = m) ∧
            Aside0 (Kd.R k45 45 wr w6.heap.size (fun _ => True) vo (done.map stopOf)) ∧ Aside0 (Below w6.heap.size w6 wr)) (fun _ _ _ vl _ => (intOf vl + 1).toNat)
          case atStart =>
            refine ⟨x, [], a1, a3, rfl, rfl, ?_, ⟨by simp⟩, WAY0, LEN0, ⟨Kd.R_nil _ _ _ _ _⟩, ⟨Below.refl _ _⟩⟩
            first | rfl | go_num
          case round =>
            obtain ⟨m, done, p, t, rfl, rfl, rfl, HDM, HWY, HLN, HOUT, NB⟩ := hrel
            have WR := Aside0.mk (W6.out.next NB.out W6.out.below.size)
            have RR := Aside0.mk (RB.out.next NB.out)
            clear WAY0 LEN0
            cases m with
            | zero =>
              rw [show ((0 : Nat) : Int) - 1 = -1 from rfl]
              go_wp2
              go_ret2
              refine ⟨_, rfl, ?_, WR.out.below⟩
              have := HWY.out
              rw [show Net.steps (netOf l0_0 l0_1).S (Net.bwd (netOf l0_0 l0_1).S a2 e) 0 p t = [] from rfl, List.append_nil] at this
              rw [this]
              exact Kd.R_lower HOUT.out W6.out.below.size
            | succ m =>
              rw [show ((m + 1 : Nat) : Int) - 1 = (m : Int) by omega]
              obtain ⟨l, d, hpk, hstp, hln'⟩ := Net.steps_full HLN.out
              rw [hstp] at HWY
              obtain ⟨⟨z0, z1, z2, z3, z4, z5, z6, z7⟩, hz, rfl, hzm⟩ := pickS_of hS.out (bwd_good (by omega) hes.2 m) hpk
              have hm0 : (0 : Int) ≤ m := by omega
              go_wp2_with fail
              have hmik : (min m k') ≤ k' := by omega
              have hmiE : Net.bwd (netOf l0_0 l0_1).S a2 e (min m k') = Net.bwd (netOf l0_0 l0_1).S a2 e m := by
                rcases Nat.le_total m k' with h | h
                · rw [show min m k' = m by omega]
                · rw [show min m k' = k' by omega]; exact (Net.bwd_fix F4.out m h).symm
              have e0 : wr.cell? ⟨Bw, 0, none⟩ = some (.map (some bm)) := (blk_cell WR.out.blk 0).trans rfl
              have e1 : wr.cell? ⟨Bw, 1, none⟩ = some (.int .i64 l0_0.length) := (blk_cell WR.out.blk 1).trans rfl
              have e2 : wr.cell? ⟨Bw, 2, none⟩ = some (.slice Av sl.length cv) := (blk_cell WR.out.blk 2).trans rfl
              have e3 : wr.rangeAt g' ((min m k') * 50) (rowL (rowOf Net.encN l0_0 (Net.bwd (netOf l0_0 l0_1).S a2 e (min m k')))) := RR.out (min m k') hmik
              have hRL50 := rowOf_length Net.encN l0_0 (Net.bwd (netOf l0_0 l0_1).S a2 e (min m k'))
              obtain ⟨RL, hRL⟩ : ∃ RL, RL = rowOf Net.encN l0_0 (Net.bwd (netOf l0_0 l0_1).S a2 e (min m k')) := ⟨_, rfl⟩
              rw [← hRL] at e3 hRL50
              rw [hmiE] at hRL
              have HRL := Aside0.mk hRL
              clear hRL hmiE
              have hw1 : IntKind.i64.wrap (((k' + 1 : Nat) : Int) - 1) = k' := by rw [IntKind.wrap_i64]; omega
              have hw2 : IntKind.i64.wrap ((k' : Int) + 1 - 1) = k' := by rw [IntKind.wrap_i64]; omega
              have hw3 : IntKind.i64.wrap (k' : Int) = k' := by rw [IntKind.wrap_i64]; omega
              have hmn : min (m : Int) (k' : Int) = ((min m k' : Nat) : Int) := by omega
              have hmi0 : (0 : Int) ≤ ((min m k' : Nat) : Int) := by omega
              have hmi1 : ((min m k' : Nat) : Int) < ((k' + 1 : Nat) : Int) := by omega
              have hmi2 : ((min m k' : Nat) : Int) < (k' : Int) + 1 := by omega
              have hBw := Aside0.mk (blk_lt WR.out.blk)
              have hg' : Aside0 (g' < wr.heap.size) := Aside0.mk (World.block_lt_of_cell? wr _ (RR.out.cell hmik (q := 0) (by rw [rowOf_length]; omega)))
              have c1 := Try.underlying112
              have c2 : (Try.prog.info? 112).map (·.size) = some (rowL RL).length := by rw [rowL_length, hRL50]; exact size112
              have c3 : (rowL RL).length = 50 := by rw [rowL_length, hRL50]
              have c4 := rowL_one RL
              -- REGION 17 (wayreg.py)
              refine start_ (n := 19) (S := fun w' => Below wr.heap.size wr w') (ds := []) #[false, false, false, false, false, false, false, false, false, false, false, false, false, false, false, false, false, false, false] (by kernel_rfl) rfl rfl ((Below.refl _ _).drew) (fun hHeld => ?_)
              refine with_tabW way17.tab way17.bits (fun HT_ HW_ => ?_)
              generalize wr.drew = w20 at hHeld ⊢
              refine pure_ (i := 1) (N := some 78) (v := ?_) (a' := ?_) #[false, true, false, false, false, false, false, false, false, false, false, false, false, false, false, false, false, false, false] rfl rfl (any_of HT_.out (by kernel_rfl)) (fun _ _ _ h => h) (Or.inl ⟨by rfl, ?_⟩) ?_ ?_
              rotate_left
              · intro w'
                go_simp
                with_reducible rfl
              rotate_left
              · simp only [Act.put, List.setIfInBounds_toArray, List.set_cons_zero, List.set_cons_succ, i64_w, i32_w]
                rfl
              refine pure_ (i := 2) (N := some 79) (v := ?_) (a' := ?_) #[false, true, true, false, false, false, false, false, false, false, false, false, false, false, false, false, false, false, false] rfl rfl (any_of HT_.out (by kernel_rfl)) (fun _ _ _ h => h) (Or.inl ⟨by rfl, ?_⟩) ?_ ?_
              rotate_left
              · intro w'
                go_simp
                with_reducible rfl
              rotate_left
              · simp only [Act.put, List.setIfInBounds_toArray, List.set_cons_zero, List.set_cons_succ, i64_w, i32_w]
                rfl
              refine pure_ (i := 3) (N := some 80) (v := ?_) (a' := ?_) #[false, true, true, true, false, false, false, false, false, false, false, false, false, false, false, false, false, false, false] rfl rfl (any_of HT_.out (by kernel_rfl)) (fun _ _ _ h => h) (Or.inl ⟨by rfl, ?_⟩) ?_ ?_
              rotate_left
              · intro w'
                go_simp
                with_reducible rfl
              rotate_left
              · simp only [Act.put, List.setIfInBounds_toArray, List.set_cons_zero, List.set_cons_succ, i64_w, i32_w]
                rfl
              refine pure_ (i := 4) (N := some 81) (v := ?_) (a' := ?_) #[false, true, true, true, true, false, false, false, false, false, false, false, false, false, false, false, false, false, false] rfl rfl (any_of HT_.out (by kernel_rfl)) (fun _ _ _ h => h) (Or.inl ⟨by rfl, ?_⟩) ?_ ?_
              rotate_left
              · intro w'
                go_simp
                with_reducible rfl
              rotate_left
              · simp only [Act.put, List.setIfInBounds_toArray, List.set_cons_zero, List.set_cons_succ, i64_w, i32_w]
                rfl
              refine pure_ (i := 5) (N := some 82) (v := ?_) (a' := ?_) #[false, true, true, true, true, true, false, false, false, false, false, false, false, false, false, false, false, false, false] rfl rfl (any_of HT_.out (by kernel_rfl)) (fun _ _ _ h => h) (Or.inl ⟨by rfl, ?_⟩) ?_ ?_
              rotate_left
              · intro w'
                go_simp
                with_reducible rfl
              rotate_left
              · simp only [Act.put, List.setIfInBounds_toArray, List.set_cons_zero, List.set_cons_succ, i64_w, i32_w]
                rfl
              refine pure_ (i := 6) (N := some 83) (v := ?_) (a' := ?_) #[false, true, true, true, true, true, true, false, false, false, false, false, false, false, false, false, false, false, false] rfl rfl (any_of HT_.out (by kernel_rfl)) (fun _ _ _ h => h) (Or.inl ⟨by rfl, ?_⟩) ?_ ?_
              rotate_left
              · intro w'
                go_simp
                with_reducible rfl
              rotate_left
              · simp only [Act.put, List.setIfInBounds_toArray, List.set_cons_zero, List.set_cons_succ, i64_w, i32_w]
                rfl
              refine pure_ (i := 7) (N := some 84) (v := ?_) (a' := ?_) #[false, true, true, true, true, true, true, true, false, false, false, false, false, false, false, false, false, false, false] rfl rfl (any_of HT_.out (by kernel_rfl)) (fun _ _ _ h => h) (Or.inl ⟨by rfl, ?_⟩) ?_ ?_
              rotate_left
              · intro w'
                go_simp
                with_reducible rfl
              rotate_left
              · simp only [Act.put, List.setIfInBounds_toArray, List.set_cons_zero, List.set_cons_succ, i64_w, i32_w]
                rfl
              refine pure_ (i := 8) (N := some 85) (v := ?_) (a' := ?_) #[false, true, true, true, true, true, true, true, true, false, false, false, false, false, false, false, false, false, false] rfl rfl (any_of HT_.out (by kernel_rfl)) (fun _ _ _ h => h) (Or.inl ⟨by rfl, ?_⟩) ?_ ?_
              rotate_left
              · intro w'
                go_simp
                with_reducible rfl
              rotate_left
              · simp only [Act.put, List.setIfInBounds_toArray, List.set_cons_zero, List.set_cons_succ, i64_w, i32_w]
                rfl
              refine pure_ (i := 9) (N := some 86) (v := ?_) (a' := ?_) #[false, true, true, true, true, true, true, true, true, true, false, false, false, false, false, false, false, false, false] rfl rfl (any_of HT_.out (by kernel_rfl)) (fun _ _ _ h => h) (Or.inl ⟨by rfl, ?_⟩) ?_ ?_
              rotate_left
              · intro w'
                go_simp
                with_reducible rfl
              rotate_left
              · simp only [Act.put, List.setIfInBounds_toArray, List.set_cons_zero, List.set_cons_succ, i64_w, i32_w]
                rfl
              refine take_ (i := 0) (N := some 77) (v := ?_) (a' := ?_) #[true, true, true, true, true, true, true, true, true, true, false, false, false, false, false, false, false, false, false] rfl rfl (take_ofW HT_.out HW_.out (by kernel_rfl)) (fun _ _ _ h => h) (Or.inl ⟨by rfl, ?_⟩) hHeld ?_ ?_
              rotate_left
              · intro w' hS
                have s0 := (hS.cell (World.block_lt_of_cell? wr _ e0)).trans e0
                have s1 := (hS.cell (World.block_lt_of_cell? wr _ e1)).trans e1
                have s2 := (hS.cell (World.block_lt_of_cell? wr _ e2)).trans e2
                go_simp
                with_reducible rfl
              rotate_left
              · simp only [Act.put, List.setIfInBounds_toArray, List.set_cons_zero, List.set_cons_succ, i64_w, i32_w]
                rfl
              refine take_ (i := 10) (N := some 87) (v := ?_) (a' := ?_) #[true, true, true, true, true, true, true, true, true, true, true, false, false, false, false, false, false, false, false] rfl rfl (take_ofW HT_.out HW_.out (by kernel_rfl)) (fun _ _ _ h => h) ?hy hHeld ?ha ?_
              case hy =>
                refine yieldsIf_load_mid ?w1 112 (.tmp 86) ?w2 g' (min m k' * 50) ?w3 (rowL RL) (.array 50 3) ?w4 c1 rfl c2
                case w2 => rfl
                case w1 => rfl
                case w3 => rfl
                case w4 => exact fun w hS => range_below e3 hS
              case ha =>
                simp only [Act.put, List.setIfInBounds_toArray, List.set_cons_zero, List.set_cons_succ, i64_w, i32_w]
                rfl
              refine join_ (σ := Nat × Nat) 2 #[true, true, true, true, true, true, true, true, true, true, true, true, true, true, true, true, true, false, false] (fun s_ => [(88, .tuple #[.agg #[.int .i64 z0, .int .i64 z1, .int .i64 z2, .int .i64 z3, .int .i64 z4, .int .i64 z5, .int .i64 z6, .int .u8 z7], .agg #[.int .i64 d, .int .i64 (d + z4)]]), (76, .tuple #[.agg #[.int .i64 z0, .int .i64 z1, .int .i64 z2, .int .i64 z3, .int .i64 z4, .int .i64 z5, .int .i64 z6, .int .u8 z7], .agg #[.int .i64 d, .int .i64 (d + z4)]]), (89, .agg #[.int .i64 z0, .int .i64 z1, .int .i64 z2, .int .i64 z3, .int .i64 z4, .int .i64 z5, .int .i64 z6, .int .u8 z7]), (90, .agg #[.int .i64 d, .int .i64 (d + z4)]), (20, .pointer (some ⟨s_.1, 0, none⟩)), (21, .pointer (some ⟨s_.2, 0, none⟩))]) (fun s_ w' => (w'.heap[s_.1]? = some (.cells #[.int .i64 0, .int .i64 0, .int .i64 0, .int .i64 0, .int .i64 0, .int .i64 0, .int .i64 0, .int .u8 0] 23 (0, 0))) ∧ (w'.heap[s_.2]? = some (.cells #[.int .i64 0, .int .i64 0] 114 (0, 0))) ∧ s_.1 ≠ s_.2 ∧ wr.heap.size ≤ s_.1 ∧ wr.heap.size ≤ s_.2 ∧ Below wr.heap.size wr w') ?_ ?_
              rotate_left
              · intro hCont
                refine three_ (i := 11) (j := 15) (k := 16) (Ni := some 88) (Nj := some 20) (Nk := some 21) #[true, true, true, true, true, true, true, true, true, true, true, true, false, false, false, false, false, false, false] #[true, true, true, true, true, true, true, true, true, true, true, false, false, false, false, true, false, false, false] #[true, true, true, true, true, true, true, true, true, true, true, false, false, false, false, false, true, false, false] rfl rfl rfl rfl rfl rfl (three_of HT_.out (by kernel_rfl)) (by decide) (by decide) (by decide) (fun K hK => ?_) (fun K hK => ?_) (fun K hK => ?_)
                · skip
                  refine goes_ Try.func65 (by kernel_rfl) rfl #[.agg #[.map (some bm), .int .i64 l0_0.length, .slice Av sl.length cv], .int .i64 p, .int .i64 t, rowV RL] (by rfl) rfl rfl (by (try simp only [List.map_toArray, List.map_cons, List.map_nil]); first | done | rfl) ?_
                  refine (step_z l0_0 sl bm l0_0.length sl.length Av cv p t (Net.bwd (netOf l0_0 l0_1).S a2 e m) RL z0 z1 z2 z3 z4 z5 z6 z7 d _ hz HRL.out rfl h50 HLO.out hsl200 (WR.out.next hHeld WR.out.below.size).pos (WR.out.next hHeld WR.out.below.size).legs).mono ?_
                  rintro en w21 ⟨rfl, hb⟩
                  refine ⟨_, rfl, ?_⟩
                  have hH2 := below_then hHeld hHeld.size hb
                  refine hK.out _ _ hH2 (fun hHeld => ?_)
                  clear hK K hH2
                  refine norm_ (a' := ?_) ?_ ?_
                  rotate_left
                  · show Act.put _ (some 88) _ = _
                    simp only [Act.put, List.setIfInBounds_toArray, List.set_cons_zero, List.set_cons_succ, i64_w, i32_w]
                    rfl
                  clear hb
                  refine pure_ (i := 12) (N := some 76) (v := ?_) (a' := ?_) #[true, true, true, true, true, true, true, true, true, true, true, true, true, false, false, false, false, false, false] rfl rfl (any_of HT_.out (by kernel_rfl)) (fun _ _ _ h => h) (Or.inl ⟨by rfl, ?_⟩) ?_ ?_
                  rotate_left
                  · intro w'
                    go_simp
                    with_reducible rfl
                  rotate_left
                  · simp only [Act.put, List.setIfInBounds_toArray, List.set_cons_zero, List.set_cons_succ, i64_w, i32_w]
                    rfl
                  refine pure_ (i := 13) (N := some 89) (v := ?_) (a' := ?_) #[true, true, true, true, true, true, true, true, true, true, true, true, true, true, false, false, false, false, false] rfl rfl (any_of HT_.out (by kernel_rfl)) (fun _ _ _ h => h) (Or.inl ⟨by rfl, ?_⟩) ?_ ?_
                  rotate_left
                  · intro w'
                    go_simp
                    with_reducible rfl
                  rotate_left
                  · simp only [Act.put, List.setIfInBounds_toArray, List.set_cons_zero, List.set_cons_succ, i64_w, i32_w]
                    rfl
                  refine pure_ (i := 14) (N := some 90) (v := ?_) (a' := ?_) #[true, true, true, true, true, true, true, true, true, true, true, true, true, true, true, false, false, false, false] rfl rfl (any_of HT_.out (by kernel_rfl)) (fun _ _ _ h => h) (Or.inl ⟨by rfl, ?_⟩) ?_ ?_
                  rotate_left
                  · intro w'
                    go_simp
                    with_reducible rfl
                  rotate_left
                  · simp only [Act.put, List.setIfInBounds_toArray, List.set_cons_zero, List.set_cons_succ, i64_w, i32_w]
                    rfl
                  refine two_ (i := 15) (j := 16) (Ni := some 20) (Nj := some 21) #[true, true, true, true, true, true, true, true, true, true, true, true, true, true, true, true, false, false, false] #[true, true, true, true, true, true, true, true, true, true, true, true, true, true, true, false, true, false, false] rfl rfl rfl rfl (two_of HT_.out (by kernel_rfl)) (by decide) (by decide) (fun K hK => ?_) (fun K hK => ?_)
                  · skip
                    refine box_step ?hg (N := 20) ?hd (cs := #[.int .i64 0, .int .i64 0, .int .i64 0, .int .i64 0, .int .i64 0, .int .i64 0, .int .i64 0, .int .u8 0]) (t := 23) ?hr ?_; (case hd => rfl); (case hg => rfl); (case hr => first | (go_simp; done) | (go_simp; rfl))
                    intro g20 hg w2_20 hbox hb
                    have G20 : Aside0 (wr.heap.size ≤ g20) := ⟨by rw [hg]; exact hHeld.size⟩
                    have BK20 := Aside0.mk hbox
                    have hH2 := below_then hHeld hHeld.size hb
                    refine hK.out _ _ hH2 (fun hHeld => ?_)
                    clear hK K hH2
                    refine norm_ (a' := ?_) ?_ ?_
                    rotate_left
                    · show Act.put _ (some 20) _ = _
                      simp only [Act.put, List.setIfInBounds_toArray, List.set_cons_zero, List.set_cons_succ, i64_w, i32_w]
                      rfl
                    clear hb hbox hg
                    refine one_ (i := 16) (N := some 21) #[true, true, true, true, true, true, true, true, true, true, true, true, true, true, true, true, true, false, false] rfl rfl (one_of HT_.out (by kernel_rfl)) (by decide) (fun K hK => ?_)
                    refine box_step ?hg (N := 21) ?hd (cs := #[.int .i64 0, .int .i64 0]) (t := 114) ?hr ?_; (case hd => rfl); (case hg => rfl); (case hr => first | (go_simp; done) | (go_simp; rfl))
                    intro g21 hg w2_21 hbox hb
                    have G21 : Aside0 (wr.heap.size ≤ g21) := ⟨by rw [hg]; exact hHeld.size⟩
                    have NE : Aside0 (g20 ≠ g21) := ⟨by rw [hg]; have := blk_lt BK20.out; omega⟩
                    have BK20' := Aside0.mk (blk_below BK20.out hb)
                    clear BK20
                    have BK20 := BK20'
                    clear BK20'
                    have BK21 := Aside0.mk hbox
                    have hH2 := below_then hHeld hHeld.size hb
                    refine hK.out _ _ hH2 (fun hHeld => ?_)
                    clear hK K hH2
                    refine norm_ (a' := ?_) ?_ ?_
                    rotate_left
                    · show Act.put _ (some 21) _ = _
                      simp only [Act.put, List.setIfInBounds_toArray, List.set_cons_zero, List.set_cons_succ, i64_w, i32_w]
                      rfl
                    clear hb hbox hg
                    exact norm_ (by simp only [putAll, Act.put, List.setIfInBounds_toArray, List.set_cons_zero, List.set_cons_succ]) (hCont (g20, g21) _ ⟨BK20.out, BK21.out, NE.out, G20.out, G21.out, hHeld⟩)
                  · skip
                    refine box_step ?hg (N := 21) ?hd (cs := #[.int .i64 0, .int .i64 0]) (t := 114) ?hr ?_; (case hd => rfl); (case hg => rfl); (case hr => first | (go_simp; done) | (go_simp; rfl))
                    intro g21 hg w2_21 hbox hb
                    have G21 : Aside0 (wr.heap.size ≤ g21) := ⟨by rw [hg]; exact hHeld.size⟩
                    have BK21 := Aside0.mk hbox
                    have hH2 := below_then hHeld hHeld.size hb
                    refine hK.out _ _ hH2 (fun hHeld => ?_)
                    clear hK K hH2
                    refine norm_ (a' := ?_) ?_ ?_
                    rotate_left
                    · show Act.put _ (some 21) _ = _
                      simp only [Act.put, List.setIfInBounds_toArray, List.set_cons_zero, List.set_cons_succ, i64_w, i32_w]
                      rfl
                    clear hb hbox hg
                    refine one_ (i := 15) (N := some 20) #[true, true, true, true, true, true, true, true, true, true, true, true, true, true, true, true, true, false, false] rfl rfl (one_of HT_.out (by kernel_rfl)) (by decide) (fun K hK => ?_)
                    refine box_step ?hg (N := 20) ?hd (cs := #[.int .i64 0, .int .i64 0, .int .i64 0, .int .i64 0, .int .i64 0, .int .i64 0, .int .i64 0, .int .u8 0]) (t := 23) ?hr ?_; (case hd => rfl); (case hg => rfl); (case hr => first | (go_simp; done) | (go_simp; rfl))
                    intro g20 hg w2_20 hbox hb
                    have G20 : Aside0 (wr.heap.size ≤ g20) := ⟨by rw [hg]; exact hHeld.size⟩
                    have NE : Aside0 (g20 ≠ g21) := ⟨by rw [hg]; have := blk_lt BK21.out; omega⟩
                    have BK21' := Aside0.mk (blk_below BK21.out hb)
                    clear BK21
                    have BK21 := BK21'
                    clear BK21'
                    have BK20 := Aside0.mk hbox
                    have hH2 := below_then hHeld hHeld.size hb
                    refine hK.out _ _ hH2 (fun hHeld => ?_)
                    clear hK K hH2
                    refine norm_ (a' := ?_) ?_ ?_
                    rotate_left
                    · show Act.put _ (some 20) _ = _
                      simp only [Act.put, List.setIfInBounds_toArray, List.set_cons_zero, List.set_cons_succ, i64_w, i32_w]
                      rfl
                    clear hb hbox hg
                    exact norm_ (by simp only [putAll, Act.put, List.setIfInBounds_toArray, List.set_cons_zero, List.set_cons_succ]) (hCont (g20, g21) _ ⟨BK20.out, BK21.out, NE.out, G20.out, G21.out, hHeld⟩)
                · skip
                  refine box_step ?hg (N := 20) ?hd (cs := #[.int .i64 0, .int .i64 0, .int .i64 0, .int .i64 0, .int .i64 0, .int .i64 0, .int .i64 0, .int .u8 0]) (t := 23) ?hr ?_; (case hd => rfl); (case hg => rfl); (case hr => first | (go_simp; done) | (go_simp; rfl))
                  intro g20 hg w2_20 hbox hb
                  have G20 : Aside0 (wr.heap.size ≤ g20) := ⟨by rw [hg]; exact hHeld.size⟩
                  have BK20 := Aside0.mk hbox
                  have hH2 := below_then hHeld hHeld.size hb
                  refine hK.out _ _ hH2 (fun hHeld => ?_)
                  clear hK K hH2
                  refine norm_ (a' := ?_) ?_ ?_
                  rotate_left
                  · show Act.put _ (some 20) _ = _
                    simp only [Act.put, List.setIfInBounds_toArray, List.set_cons_zero, List.set_cons_succ, i64_w, i32_w]
                    rfl
                  clear hb hbox hg
                  refine two_ (i := 11) (j := 16) (Ni := some 88) (Nj := some 21) #[true, true, true, true, true, true, true, true, true, true, true, true, false, false, false, true, false, false, false] #[true, true, true, true, true, true, true, true, true, true, true, false, false, false, false, true, true, false, false] rfl rfl rfl rfl (two_of HT_.out (by kernel_rfl)) (by decide) (by decide) (fun K hK => ?_) (fun K hK => ?_)
                  · skip
                    refine goes_ Try.func65 (by kernel_rfl) rfl #[.agg #[.map (some bm), .int .i64 l0_0.length, .slice Av sl.length cv], .int .i64 p, .int .i64 t, rowV RL] (by rfl) rfl rfl (by (try simp only [List.map_toArray, List.map_cons, List.map_nil]); first | done | rfl) ?_
                    refine (step_z l0_0 sl bm l0_0.length sl.length Av cv p t (Net.bwd (netOf l0_0 l0_1).S a2 e m) RL z0 z1 z2 z3 z4 z5 z6 z7 d _ hz HRL.out rfl h50 HLO.out hsl200 (WR.out.next hHeld WR.out.below.size).pos (WR.out.next hHeld WR.out.below.size).legs).mono ?_
                    rintro en w21 ⟨rfl, hb⟩
                    refine ⟨_, rfl, ?_⟩
                    have BK20' := Aside0.mk (blk_below BK20.out hb)
                    clear BK20
                    have BK20 := BK20'
                    clear BK20'
                    have hH2 := below_then hHeld hHeld.size hb
                    refine hK.out _ _ hH2 (fun hHeld => ?_)
                    clear hK K hH2
                    refine norm_ (a' := ?_) ?_ ?_
                    rotate_left
                    · show Act.put _ (some 88) _ = _
                      simp only [Act.put, List.setIfInBounds_toArray, List.set_cons_zero, List.set_cons_succ, i64_w, i32_w]
                      rfl
                    clear hb
                    refine pure_ (i := 12) (N := some 76) (v := ?_) (a' := ?_) #[true, true, true, true, true, true, true, true, true, true, true, true, true, false, false, true, false, false, false] rfl rfl (any_of HT_.out (by kernel_rfl)) (fun _ _ _ h => h) (Or.inl ⟨by rfl, ?_⟩) ?_ ?_
                    rotate_left
                    · intro w'
                      go_simp
                      with_reducible rfl
                    rotate_left
                    · simp only [Act.put, List.setIfInBounds_toArray, List.set_cons_zero, List.set_cons_succ, i64_w, i32_w]
                      rfl
                    refine pure_ (i := 13) (N := some 89) (v := ?_) (a' := ?_) #[true, true, true, true, true, true, true, true, true, true, true, true, true, true, false, true, false, false, false] rfl rfl (any_of HT_.out (by kernel_rfl)) (fun _ _ _ h => h) (Or.inl ⟨by rfl, ?_⟩) ?_ ?_
                    rotate_left
                    · intro w'
                      go_simp
                      with_reducible rfl
                    rotate_left
                    · simp only [Act.put, List.setIfInBounds_toArray, List.set_cons_zero, List.set_cons_succ, i64_w, i32_w]
                      rfl
                    refine pure_ (i := 14) (N := some 90) (v := ?_) (a' := ?_) #[true, true, true, true, true, true, true, true, true, true, true, true, true, true, true, true, false, false, false] rfl rfl (any_of HT_.out (by kernel_rfl)) (fun _ _ _ h => h) (Or.inl ⟨by rfl, ?_⟩) ?_ ?_
                    rotate_left
                    · intro w'
                      go_simp
                      with_reducible rfl
                    rotate_left
                    · simp only [Act.put, List.setIfInBounds_toArray, List.set_cons_zero, List.set_cons_succ, i64_w, i32_w]
                      rfl
                    refine one_ (i := 16) (N := some 21) #[true, true, true, true, true, true, true, true, true, true, true, true, true, true, true, true, true, false, false] rfl rfl (one_of HT_.out (by kernel_rfl)) (by decide) (fun K hK => ?_)
                    refine box_step ?hg (N := 21) ?hd (cs := #[.int .i64 0, .int .i64 0]) (t := 114) ?hr ?_; (case hd => rfl); (case hg => rfl); (case hr => first | (go_simp; done) | (go_simp; rfl))
                    intro g21 hg w2_21 hbox hb
                    have G21 : Aside0 (wr.heap.size ≤ g21) := ⟨by rw [hg]; exact hHeld.size⟩
                    have NE : Aside0 (g20 ≠ g21) := ⟨by rw [hg]; have := blk_lt BK20.out; omega⟩
                    have BK20' := Aside0.mk (blk_below BK20.out hb)
                    clear BK20
                    have BK20 := BK20'
                    clear BK20'
                    have BK21 := Aside0.mk hbox
                    have hH2 := below_then hHeld hHeld.size hb
                    refine hK.out _ _ hH2 (fun hHeld => ?_)
                    clear hK K hH2
                    refine norm_ (a' := ?_) ?_ ?_
                    rotate_left
                    · show Act.put _ (some 21) _ = _
                      simp only [Act.put, List.setIfInBounds_toArray, List.set_cons_zero, List.set_cons_succ, i64_w, i32_w]
                      rfl
                    clear hb hbox hg
                    exact norm_ (by simp only [putAll, Act.put, List.setIfInBounds_toArray, List.set_cons_zero, List.set_cons_succ]) (hCont (g20, g21) _ ⟨BK20.out, BK21.out, NE.out, G20.out, G21.out, hHeld⟩)
                  · skip
                    refine box_step ?hg (N := 21) ?hd (cs := #[.int .i64 0, .int .i64 0]) (t := 114) ?hr ?_; (case hd => rfl); (case hg => rfl); (case hr => first | (go_simp; done) | (go_simp; rfl))
                    intro g21 hg w2_21 hbox hb
                    have G21 : Aside0 (wr.heap.size ≤ g21) := ⟨by rw [hg]; exact hHeld.size⟩
                    have NE : Aside0 (g20 ≠ g21) := ⟨by rw [hg]; have := blk_lt BK20.out; omega⟩
                    have BK20' := Aside0.mk (blk_below BK20.out hb)
                    clear BK20
                    have BK20 := BK20'
                    clear BK20'
                    have BK21 := Aside0.mk hbox
                    have hH2 := below_then hHeld hHeld.size hb
                    refine hK.out _ _ hH2 (fun hHeld => ?_)
                    clear hK K hH2
                    refine norm_ (a' := ?_) ?_ ?_
                    rotate_left
                    · show Act.put _ (some 21) _ = _
                      simp only [Act.put, List.setIfInBounds_toArray, List.set_cons_zero, List.set_cons_succ, i64_w, i32_w]
                      rfl
                    clear hb hbox hg
                    refine one_ (i := 11) (N := some 88) #[true, true, true, true, true, true, true, true, true, true, true, true, false, false, false, true, true, false, false] rfl rfl (one_of HT_.out (by kernel_rfl)) (by decide) (fun K hK => ?_)
                    refine goes_ Try.func65 (by kernel_rfl) rfl #[.agg #[.map (some bm), .int .i64 l0_0.length, .slice Av sl.length cv], .int .i64 p, .int .i64 t, rowV RL] (by rfl) rfl rfl (by (try simp only [List.map_toArray, List.map_cons, List.map_nil]); first | done | rfl) ?_
                    refine (step_z l0_0 sl bm l0_0.length sl.length Av cv p t (Net.bwd (netOf l0_0 l0_1).S a2 e m) RL z0 z1 z2 z3 z4 z5 z6 z7 d _ hz HRL.out rfl h50 HLO.out hsl200 (WR.out.next hHeld WR.out.below.size).pos (WR.out.next hHeld WR.out.below.size).legs).mono ?_
                    rintro en w21 ⟨rfl, hb⟩
                    refine ⟨_, rfl, ?_⟩
                    have BK20' := Aside0.mk (blk_below BK20.out hb)
                    have BK21' := Aside0.mk (blk_below BK21.out hb)
                    clear BK20
                    have BK20 := BK20'
                    clear BK20'
                    clear BK21
                    have BK21 := BK21'
                    clear BK21'
                    have hH2 := below_then hHeld hHeld.size hb
                    refine hK.out _ _ hH2 (fun hHeld => ?_)
                    clear hK K hH2
                    refine norm_ (a' := ?_) ?_ ?_
                    rotate_left
                    · show Act.put _ (some 88) _ = _
                      simp only [Act.put, List.setIfInBounds_toArray, List.set_cons_zero, List.set_cons_succ, i64_w, i32_w]
                      rfl
                    clear hb
                    refine pure_ (i := 12) (N := some 76) (v := ?_) (a' := ?_) #[true, true, true, true, true, true, true, true, true, true, true, true, true, false, false, true, true, false, false] rfl rfl (any_of HT_.out (by kernel_rfl)) (fun _ _ _ h => h) (Or.inl ⟨by rfl, ?_⟩) ?_ ?_
                    rotate_left
                    · intro w'
                      go_simp
                      with_reducible rfl
                    rotate_left
                    · simp only [Act.put, List.setIfInBounds_toArray, List.set_cons_zero, List.set_cons_succ, i64_w, i32_w]
                      rfl
                    refine pure_ (i := 13) (N := some 89) (v := ?_) (a' := ?_) #[true, true, true, true, true, true, true, true, true, true, true, true, true, true, false, true, true, false, false] rfl rfl (any_of HT_.out (by kernel_rfl)) (fun _ _ _ h => h) (Or.inl ⟨by rfl, ?_⟩) ?_ ?_
                    rotate_left
                    · intro w'
                      go_simp
                      with_reducible rfl
                    rotate_left
                    · simp only [Act.put, List.setIfInBounds_toArray, List.set_cons_zero, List.set_cons_succ, i64_w, i32_w]
                      rfl
                    refine pure_ (i := 14) (N := some 90) (v := ?_) (a' := ?_) #[true, true, true, true, true, true, true, true, true, true, true, true, true, true, true, true, true, false, false] rfl rfl (any_of HT_.out (by kernel_rfl)) (fun _ _ _ h => h) (Or.inl ⟨by rfl, ?_⟩) ?_ ?_
                    rotate_left
                    · intro w'
                      go_simp
                      with_reducible rfl
                    rotate_left
                    · simp only [Act.put, List.setIfInBounds_toArray, List.set_cons_zero, List.set_cons_succ, i64_w, i32_w]
                      rfl
                    exact norm_ (by simp only [putAll, Act.put, List.setIfInBounds_toArray, List.set_cons_zero, List.set_cons_succ]) (hCont (g20, g21) _ ⟨BK20.out, BK21.out, NE.out, G20.out, G21.out, hHeld⟩)
                · skip
                  refine box_step ?hg (N := 21) ?hd (cs := #[.int .i64 0, .int .i64 0]) (t := 114) ?hr ?_; (case hd => rfl); (case hg => rfl); (case hr => first | (go_simp; done) | (go_simp; rfl))
                  intro g21 hg w2_21 hbox hb
                  have G21 : Aside0 (wr.heap.size ≤ g21) := ⟨by rw [hg]; exact hHeld.size⟩
                  have BK21 := Aside0.mk hbox
                  have hH2 := below_then hHeld hHeld.size hb
                  refine hK.out _ _ hH2 (fun hHeld => ?_)
                  clear hK K hH2
                  refine norm_ (a' := ?_) ?_ ?_
                  rotate_left
                  · show Act.put _ (some 21) _ = _
                    simp only [Act.put, List.setIfInBounds_toArray, List.set_cons_zero, List.set_cons_succ, i64_w, i32_w]
                    rfl
                  clear hb hbox hg
                  refine two_ (i := 11) (j := 15) (Ni := some 88) (Nj := some 20) #[true, true, true, true, true, true, true, true, true, true, true, true, false, false, false, false, true, false, false] #[true, true, true, true, true, true, true, true, true, true, true, false, false, false, false, true, true, false, false] rfl rfl rfl rfl (two_of HT_.out (by kernel_rfl)) (by decide) (by decide) (fun K hK => ?_) (fun K hK => ?_)
                  · skip
                    refine goes_ Try.func65 (by kernel_rfl) rfl #[.agg #[.map (some bm), .int .i64 l0_0.length, .slice Av sl.length cv], .int .i64 p, .int .i64 t, rowV RL] (by rfl) rfl rfl (by (try simp only [List.map_toArray, List.map_cons, List.map_nil]); first | done | rfl) ?_
                    refine (step_z l0_0 sl bm l0_0.length sl.length Av cv p t (Net.bwd (netOf l0_0 l0_1).S a2 e m) RL z0 z1 z2 z3 z4 z5 z6 z7 d _ hz HRL.out rfl h50 HLO.out hsl200 (WR.out.next hHeld WR.out.below.size).pos (WR.out.next hHeld WR.out.below.size).legs).mono ?_
                    rintro en w21 ⟨rfl, hb⟩
                    refine ⟨_, rfl, ?_⟩
                    have BK21' := Aside0.mk (blk_below BK21.out hb)
                    clear BK21
                    have BK21 := BK21'
                    clear BK21'
                    have hH2 := below_then hHeld hHeld.size hb
                    refine hK.out _ _ hH2 (fun hHeld => ?_)
                    clear hK K hH2
                    refine norm_ (a' := ?_) ?_ ?_
                    rotate_left
                    · show Act.put _ (some 88) _ = _
                      simp only [Act.put, List.setIfInBounds_toArray, List.set_cons_zero, List.set_cons_succ, i64_w, i32_w]
                      rfl
                    clear hb
                    refine pure_ (i := 12) (N := some 76) (v := ?_) (a' := ?_) #[true, true, true, true, true, true, true, true, true, true, true, true, true, false, false, false, true, false, false] rfl rfl (any_of HT_.out (by kernel_rfl)) (fun _ _ _ h => h) (Or.inl ⟨by rfl, ?_⟩) ?_ ?_
                    rotate_left
                    · intro w'
                      go_simp
                      with_reducible rfl
                    rotate_left
                    · simp only [Act.put, List.setIfInBounds_toArray, List.set_cons_zero, List.set_cons_succ, i64_w, i32_w]
                      rfl
                    refine pure_ (i := 13) (N := some 89) (v := ?_) (a' := ?_) #[true, true, true, true, true, true, true, true, true, true, true, true, true, true, false, false, true, false, false] rfl rfl (any_of HT_.out (by kernel_rfl)) (fun _ _ _ h => h) (Or.inl ⟨by rfl, ?_⟩) ?_ ?_
                    rotate_left
                    · intro w'
                      go_simp
                      with_reducible rfl
                    rotate_left
                    · simp only [Act.put, List.setIfInBounds_toArray, List.set_cons_zero, List.set_cons_succ, i64_w, i32_w]
                      rfl
                    refine pure_ (i := 14) (N := some 90) (v := ?_) (a' := ?_) #[true, true, true, true, true, true, true, true, true, true, true, true, true, true, true, false, true, false, false] rfl rfl (any_of HT_.out (by kernel_rfl)) (fun _ _ _ h => h) (Or.inl ⟨by rfl, ?_⟩) ?_ ?_
                    rotate_left
                    · intro w'
                      go_simp
                      with_reducible rfl
                    rotate_left
                    · simp only [Act.put, List.setIfInBounds_toArray, List.set_cons_zero, List.set_cons_succ, i64_w, i32_w]
                      rfl
                    refine one_ (i := 15) (N := some 20) #[true, true, true, true, true, true, true, true, true, true, true, true, true, true, true, true, true, false, false] rfl rfl (one_of HT_.out (by kernel_rfl)) (by decide) (fun K hK => ?_)
                    refine box_step ?hg (N := 20) ?hd (cs := #[.int .i64 0, .int .i64 0, .int .i64 0, .int .i64 0, .int .i64 0, .int .i64 0, .int .i64 0, .int .u8 0]) (t := 23) ?hr ?_; (case hd => rfl); (case hg => rfl); (case hr => first | (go_simp; done) | (go_simp; rfl))
                    intro g20 hg w2_20 hbox hb
                    have G20 : Aside0 (wr.heap.size ≤ g20) := ⟨by rw [hg]; exact hHeld.size⟩
                    have NE : Aside0 (g20 ≠ g21) := ⟨by rw [hg]; have := blk_lt BK21.out; omega⟩
                    have BK21' := Aside0.mk (blk_below BK21.out hb)
                    clear BK21
                    have BK21 := BK21'
                    clear BK21'
                    have BK20 := Aside0.mk hbox
                    have hH2 := below_then hHeld hHeld.size hb
                    refine hK.out _ _ hH2 (fun hHeld => ?_)
                    clear hK K hH2
                    refine norm_ (a' := ?_) ?_ ?_
                    rotate_left
                    · show Act.put _ (some 20) _ = _
                      simp only [Act.put, List.setIfInBounds_toArray, List.set_cons_zero, List.set_cons_succ, i64_w, i32_w]
                      rfl
                    clear hb hbox hg
                    exact norm_ (by simp only [putAll, Act.put, List.setIfInBounds_toArray, List.set_cons_zero, List.set_cons_succ]) (hCont (g20, g21) _ ⟨BK20.out, BK21.out, NE.out, G20.out, G21.out, hHeld⟩)
                  · skip
                    refine box_step ?hg (N := 20) ?hd (cs := #[.int .i64 0, .int .i64 0, .int .i64 0, .int .i64 0, .int .i64 0, .int .i64 0, .int .i64 0, .int .u8 0]) (t := 23) ?hr ?_; (case hd => rfl); (case hg => rfl); (case hr => first | (go_simp; done) | (go_simp; rfl))
                    intro g20 hg w2_20 hbox hb
                    have G20 : Aside0 (wr.heap.size ≤ g20) := ⟨by rw [hg]; exact hHeld.size⟩
                    have NE : Aside0 (g20 ≠ g21) := ⟨by rw [hg]; have := blk_lt BK21.out; omega⟩
                    have BK21' := Aside0.mk (blk_below BK21.out hb)
                    clear BK21
                    have BK21 := BK21'
                    clear BK21'
                    have BK20 := Aside0.mk hbox
                    have hH2 := below_then hHeld hHeld.size hb
                    refine hK.out _ _ hH2 (fun hHeld => ?_)
                    clear hK K hH2
                    refine norm_ (a' := ?_) ?_ ?_
                    rotate_left
                    · show Act.put _ (some 20) _ = _
                      simp only [Act.put, List.setIfInBounds_toArray, List.set_cons_zero, List.set_cons_succ, i64_w, i32_w]
                      rfl
                    clear hb hbox hg
                    refine one_ (i := 11) (N := some 88) #[true, true, true, true, true, true, true, true, true, true, true, true, false, false, false, true, true, false, false] rfl rfl (one_of HT_.out (by kernel_rfl)) (by decide) (fun K hK => ?_)
                    refine goes_ Try.func65 (by kernel_rfl) rfl #[.agg #[.map (some bm), .int .i64 l0_0.length, .slice Av sl.length cv], .int .i64 p, .int .i64 t, rowV RL] (by rfl) rfl rfl (by (try simp only [List.map_toArray, List.map_cons, List.map_nil]); first | done | rfl) ?_
                    refine (step_z l0_0 sl bm l0_0.length sl.length Av cv p t (Net.bwd (netOf l0_0 l0_1).S a2 e m) RL z0 z1 z2 z3 z4 z5 z6 z7 d _ hz HRL.out rfl h50 HLO.out hsl200 (WR.out.next hHeld WR.out.below.size).pos (WR.out.next hHeld WR.out.below.size).legs).mono ?_
                    rintro en w21 ⟨rfl, hb⟩
                    refine ⟨_, rfl, ?_⟩
                    have BK21' := Aside0.mk (blk_below BK21.out hb)
                    have BK20' := Aside0.mk (blk_below BK20.out hb)
                    clear BK21
                    have BK21 := BK21'
                    clear BK21'
                    clear BK20
                    have BK20 := BK20'
                    clear BK20'
                    have hH2 := below_then hHeld hHeld.size hb
                    refine hK.out _ _ hH2 (fun hHeld => ?_)
                    clear hK K hH2
                    refine norm_ (a' := ?_) ?_ ?_
                    rotate_left
                    · show Act.put _ (some 88) _ = _
                      simp only [Act.put, List.setIfInBounds_toArray, List.set_cons_zero, List.set_cons_succ, i64_w, i32_w]
                      rfl
                    clear hb
                    refine pure_ (i := 12) (N := some 76) (v := ?_) (a' := ?_) #[true, true, true, true, true, true, true, true, true, true, true, true, true, false, false, true, true, false, false] rfl rfl (any_of HT_.out (by kernel_rfl)) (fun _ _ _ h => h) (Or.inl ⟨by rfl, ?_⟩) ?_ ?_
                    rotate_left
                    · intro w'
                      go_simp
                      with_reducible rfl
                    rotate_left
                    · simp only [Act.put, List.setIfInBounds_toArray, List.set_cons_zero, List.set_cons_succ, i64_w, i32_w]
                      rfl
                    refine pure_ (i := 13) (N := some 89) (v := ?_) (a' := ?_) #[true, true, true, true, true, true, true, true, true, true, true, true, true, true, false, true, true, false, false] rfl rfl (any_of HT_.out (by kernel_rfl)) (fun _ _ _ h => h) (Or.inl ⟨by rfl, ?_⟩) ?_ ?_
                    rotate_left
                    · intro w'
                      go_simp
                      with_reducible rfl
                    rotate_left
                    · simp only [Act.put, List.setIfInBounds_toArray, List.set_cons_zero, List.set_cons_succ, i64_w, i32_w]
                      rfl
                    refine pure_ (i := 14) (N := some 90) (v := ?_) (a' := ?_) #[true, true, true, true, true, true, true, true, true, true, true, true, true, true, true, true, true, false, false] rfl rfl (any_of HT_.out (by kernel_rfl)) (fun _ _ _ h => h) (Or.inl ⟨by rfl, ?_⟩) ?_ ?_
                    rotate_left
                    · intro w'
                      go_simp
                      with_reducible rfl
                    rotate_left
                    · simp only [Act.put, List.setIfInBounds_toArray, List.set_cons_zero, List.set_cons_succ, i64_w, i32_w]
                      rfl
                    exact norm_ (by simp only [putAll, Act.put, List.setIfInBounds_toArray, List.set_cons_zero, List.set_cons_succ]) (hCont (g20, g21) _ ⟨BK20.out, BK21.out, NE.out, G20.out, G21.out, hHeld⟩)
              · rintro ⟨g20, g21⟩ w22 ⟨BK20, BK21, NE, G20, G21, hHeld⟩
                dsimp only at BK20 BK21 NE G20 G21 ⊢
                refine norm_ (a' := ?_) ?_ ?_
                rotate_left
                · simp only [putAll, Act.put, List.setIfInBounds_toArray, List.set_cons_zero, List.set_cons_succ]
                  rfl
                obtain ⟨q0, q1, q2, q3, q4, q5, q6, q7⟩ := cells23 BK20
                have qf := blk_frozen BK20
                obtain ⟨w23, hw23⟩ : ∃ w23, w23 = ((((((((w22.setCell ⟨g20, 0, none⟩ (.int .i64 z0)).setCell ⟨g20, 1, none⟩ (.int .i64 z1)).setCell ⟨g20, 2, none⟩ (.int .i64 z2)).setCell ⟨g20, 3, none⟩ (.int .i64 z3)).setCell ⟨g20, 4, none⟩ (.int .i64 z4)).setCell ⟨g20, 5, none⟩ (.int .i64 z5)).setCell ⟨g20, 6, none⟩ (.int .i64 z6)).setCell ⟨g20, 7, none⟩ (.int .u8 z7)) := ⟨_, rfl⟩
                obtain ⟨P1, P2, P3⟩ := put8 BK20 z0 z1 z2 z3 z4 z5 z6 z7 hw23
                have BK21' := (P2 g21 NE.symm).trans BK21
                have hH3 := P3 _ _ hHeld G20
                refine one_ (i := 17) (N := none) #[true, true, true, true, true, true, true, true, true, true, true, true, true, true, true, true, true, true, false] rfl rfl (one_of HT_.out (by kernel_rfl)) (by decide) (fun K hK => ?_)
                refine skip_ (w1 := w23) (by rfl) rfl ?_ ?_
                · rw [hw23]
                  go_simp
                refine hK.out _ _ hH3 (fun hHeld => ?_)
                clear hK K hw23 P2 P3 q0 q1 q2 q3 q4 q5 q6 q7 qf BK20 BK21
                obtain ⟨q0, q1⟩ := cells114 BK21'
                have qf := blk_frozen BK21'
                obtain ⟨w24, hw24⟩ : ∃ w24, w24 = ((w23.setCell ⟨g21, 0, none⟩ (.int .i64 d)).setCell ⟨g21, 1, none⟩ (.int .i64 (d + z4))) := ⟨_, rfl⟩
                obtain ⟨R1, R2, R3⟩ := put2 BK21' d (d + z4) hw24
                have U20 := Aside0.mk ((R2 g20 NE).trans P1)
                have U21 := Aside0.mk R1
                have hH4 := R3 _ _ hH3 G21
                refine one_ (i := 18) (N := none) #[true, true, true, true, true, true, true, true, true, true, true, true, true, true, true, true, true, true, true] rfl rfl (one_of HT_.out (by kernel_rfl)) (by decide) (fun K hK => ?_)
                refine skip_ (w1 := w24) (by rfl) rfl ?_ ?_
                · rw [hw24]
                  go_simp
                refine hK.out _ _ hH4 (fun hHeld => ?_)
                clear hK K hw24 R2 R3 q0 q1 qf BK21' P1 R1 hHeld hH3
                have UB := Aside0.mk hH4
                clear hH4
                refine done_ (done_of HT_.out (by kernel_rfl)) ?_
                have W7 := Aside0.mk (below_then NB.out NB.out.size UB.out)
                have H7 := Aside0.mk (Kd.R_below HOUT.out UB.out)
                obtain ⟨q0, q1, q2, q3, q4, q5, q6, q7⟩ := cells23 U20.out
                obtain ⟨r0, r1⟩ := cells114 U21.out
                clear e0 e1 e2 e3
                have hd50 : done.length ≤ 50 := by have := HDM.out; omega
                go_wp2_with (first | ((with_reducible refine gate_builtin (b := .append) (xs := #[.tmp 91, .tmp 99]) rfl ?_); at_builtin; refine Kd.R_append k45 (w0 := w6) w6.heap.size rfl (.tmp 91) (.tmp 99) 41 45 (.agg #[.int .i64 0, .int .i64 0, .int .i64 0]) 24 rfl Try.underlying41 info45 rfl (by decide) (by decide) _ (done.map stopOf) (⟨z0, d, d + z4⟩ : S45) [.int .i64 z0, .int .i64 d, .int .i64 (d + z4)] (fun _ => True) (fun _ => False) rfl rfl (k45_mkM _ _ _ (⟨z0, d, d + z4⟩ : S45)) (fun _ h => h.elim) (fun _ _ => trivial) H7.out W7.out W7.out.size ?hl ?_; (case hl => rw [List.length_map]; omega); intro v1 w8 x1 x2 x3 x4; have R1 := Aside0.mk x1; have R2 := Aside0.mk x2; have R3 := Aside0.mk x3; clear x1 x2 x3 x4))
                have V20 := Aside0.mk (blk_grown U20.out R3.out (Kd.R_ne H7.out U20.out (by decide)))
                have V21 := Aside0.mk (blk_grown U21.out R3.out (Kd.R_ne H7.out U21.out (by decide)))
                clear q0 q1 q2 q3 q4 q5 q6 q7 r0 r1
                obtain ⟨q0, q1, q2, q3, q4, q5, q6, q7⟩ := cells23 V20.out
                obtain ⟨r0, r1⟩ := cells114 V21.out
                go_wp2_with fail
                go_quiet (fail)
                clear q0 q1 q2 q3 q4 q5 q6 q7 r0 r1
                go_wp2
                go_roundw
                case rel =>
                  refine ⟨m, done ++ [(toLeg ⟨z0, z1, z2, z3, z4, z5, z6, z7⟩, d)], z2, d + z4, rfl, rfl, ?_, ⟨?_⟩, ⟨?_⟩, ⟨hln'⟩, ⟨?_⟩, ⟨pw_below_drewN R2.out _⟩⟩
                  · have hwm : wrap64 ((m : Int) - 1) = (m : Int) - 1 := by have := HDM.out; unfold wrap64; omega
                    first | rfl | (rw [hwm]) | (simp only [hwm])
                  · have := HDM.out; simp only [List.length_append, List.length_cons, List.length_nil]; omega
                  · rw [HWY.out, List.append_assoc]; rfl
                  · rw [List.map_append]; exact R1.out
                case measure =>
                  have hwm : wrap64 ((m : Int) - 1) = (m : Int) - 1 := by have := HDM.out; unfold wrap64; omega
                  simp [intOf, hwm]
                  try omega
        · have hlt : x < st := by have := HX.out; omega
          have hne : (Net.enc (Net.fwd (netOf l0_0 l0_1).S a1 a3 x a2) != e) = true := by
            have h1 := HST.out.2 x hlt
            cases hf : Net.fwd (netOf l0_0 l0_1).S a1 a3 x a2 with
            | none => simp [Net.enc]; omega
            | some v => rw [hf] at h1; simp [Net.enc]; intro h; exact h1 (by rw [h])
          generalize Net.enc (Net.fwd (netOf l0_0 l0_1).S a1 a3 x a2) = u at c59 hne
          go_wp2_with fail
          go_quiet (fail)
          clear c54 l56 c59
          go_wp2
          go_roundw
          case rel => exact ⟨x + 1, by first | rfl | go_num | (simp [IntKind.wrap_i64]; omega), ⟨hlt⟩, ⟨WR.out.next (pw_below_drewN (Below.refl _ _) _) WR.out.below.size⟩, ⟨RR.out.next (pw_below_drewN (Below.refl _ _) _)⟩⟩
          case measure => simp [intOf]; omega
  · rw [if_neg he] at H
    have hne : ((netOf l0_0 l0_1).openErr a3 [a1, a2] != 0) = true := by simp [he]
    obtain ⟨er, her⟩ : ∃ er, er = (netOf l0_0 l0_1).openErr a3 [a1, a2] := ⟨_, rfl⟩
    rw [← her] at H HO hne
    obtain ⟨rfl, rfl⟩ : r1 = [] ∧ r2 = er := by have := H.out; simp only [Prod.mk.injEq] at this; exact ⟨this.1.symm, this.2.symm⟩
    have HOO := Aside0.mk HO
    have HER := Aside0.mk (show r2 ≠ 0 by rw [her]; exact he)
    clear HO her he
    go_enter Try.func30, Try.ntmps30
    go_wp2_with (go_at_call 61; rw [← hw1]; refine HOO.out.mono ?_; rintro e w2 ⟨hb, er', V, rfl, rfl, h3, h4⟩; obtain rfl := h3 HER.out; have HB := Aside0.mk (below_then B3.out B3.out.size hb); clear hb h3 h4; unfold zeroW)
    go_ret2
    exact ⟨_, rfl, Kd.R_nil _ _ _ _ _, HB.out.alloc HB.out.size _⟩
end Go.Proofs.Ytdpadeklociinaa.PA
