import Derived.Test.YtdpadeklociinaaHBackward
set_option linter.unusedVariables false
namespace Go.Proofs.Ytdpadeklociinaa.PA
open Go.RowKit Go.Maps Go.Proofs.YtdpadeklociinaaW.PrintWords Go.Proofs.YtdpadeklociinaaW.PrintLast Go.Proofs.YtdpadeklociinaaW.PrintMore Go.Proofs.Ytdpadeklociinaa

theorem take_reads {W : World} {g off : Nat} {R : List Int} (h : W.rangeAt g off (rowL R)) (n : Nat) (hn : n ≤ R.length) (hR : R.length = 50) : Kd.C (Kd.int .i64) W (some ⟨g, off, none⟩) (R.take n).length (R.take n) := by
  have hl : (R.take n).length = n := by rw [List.length_take]; omega
  rw [hl]
  refine ⟨hl, by omega, fun _ => ⟨_, rfl, fun j p hj => ⟨[.int .i64 p], rfl, rfl, fun i u hu => ?_⟩⟩⟩
  match i, hu with
  | 0, hu =>
    simp at hu
    subst hu
    have hj' : R[j]? = some p := by
      rw [List.getElem?_take] at hj
      split at hj
      · exact hj
      · cases hj
    have := h j (.int .i64 p) (by unfold rowL; rw [List.getElem?_map, hj']; rfl)
    rw [Addr.add_mid]
    show W.cell? ⟨g, off + (j * 1 + 0), none⟩ = _
    rw [Nat.mul_one, Nat.add_zero]
    exact this
theorem rowOf_take {ef : Option Int → Int} {pl : List Int} (h50 : pl.length ≤ 50) (r : Net.Row) : (rowOf ef pl r).take pl.length = pl.map fun x => ef (r x) := by
  apply List.ext_getElem
  · simp [rowOf]; omega
  · intro i h1 h2
    have hi : i < pl.length := by simpa using h2
    simp [rowOf, hi]
/-- The last of the rows is the earliest arrivals. -/
theorem fwd_last {N : Net.Nw} (hv : N.Valid) {p t : Int} (hp : p ∈ N.plants) {k : Nat} (hk : Net.fwd N.S p t (k + 1) = Net.fwd N.S p t k) : Net.fwd N.S p t k = N.early p t := by
  rcases Nat.le_total k N.plants.length with h | h
  · exact (Net.fwd_fix hk _ h).symm
  · exact hv.fwd_all hp k (by omega)
theorem bwd_last {N : Net.Nw} (hv : N.Valid) {p t : Int} (hp : p ∈ N.plants) {k : Nat} (hk : Net.bwd N.S p t (k + 1) = Net.bwd N.S p t k) : Net.bwd N.S p t k = N.late p t := by
  rcases Nat.le_total k N.plants.length with h | h
  · exact (Net.bwd_fix hk _ h).symm
  · exact hv.bwd_all hp k (by omega)
/-- Legs sorted by their IDs are the sorted legs. -/
theorem sorted_S {l0 : List Int} {l1 sl : List S23} (hv : (netOf l0 l1).Valid) (hp : sl.Perm l1) (hs : sl.Pairwise (fun a b => a.f0 ≤ b.f0)) : sl.map toLeg = (netOf l0 l1).S := by
  have h1 : (sl.map toLeg).Perm (Net.isort (l1.map toLeg)) := (hp.map toLeg).trans (Net.isort_perm _).symm
  refine Net.sorted_unique _ _ h1 ?_ (Net.isort_sorted _) (fun a ha b hb e => ?_)
  · rw [List.pairwise_map]
    exact hs
  · have h2 : ∀ c, c ∈ sl.map toLeg → c ∈ (netOf l0 l1).legs := fun c hc => (hp.map toLeg).mem_iff.1 hc
    exact Net.ids_eq _ hv.ids a (h2 a ha) b (h2 b hb) e
theorem legs_ok {l0 : List Int} {l1 sl : List S23} (hv : (netOf l0 l1).Valid) (hI : netI l0 l1 = true) (hp : sl.Perm l1) : ∀ x ∈ sl, legI x = true ∧ x.f1 ∈ l0 ∧ x.f2 ∈ l0 := by
  intro x hx
  have hm : x ∈ l1 := hp.mem_iff.1 hx
  refine ⟨?_, hv.src (toLeg x) (List.mem_map_of_mem hm), hv.dst (toLeg x) (List.mem_map_of_mem hm)⟩
  unfold netI at hI
  simp only [Bool.and_eq_true, List.all_eq_true] at hI
  exact hI.2 x hm
end Go.Proofs.Ytdpadeklociinaa.PA
