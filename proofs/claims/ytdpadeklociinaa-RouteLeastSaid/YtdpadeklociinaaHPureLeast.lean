import Derived.Test.YtdpadeklociinaaHFacts
set_option linter.unusedVariables false
set_option linter.unusedSimpArgs false
namespace Go.Proofs.Ytdpadeklociinaa.PA
open Go.RowKit Go.Maps Go.Proofs.YtdpadeklociinaaW.PrintWords Go.Proofs.YtdpadeklociinaaW.PrintLast Go.Proofs.YtdpadeklociinaaW.PrintMore Go.Proofs.Ytdpadeklociinaa
/-! What RouteLeast asks, in plain Lean. -/
theorem least_at {l0 : List Int} {l1 : List S23} (hv : (netOf l0 l1).Valid) (h16 : l1.length ≤ 1000000) {p q t e : Int} (hp : p ∈ l0) (he : (netOf l0 l1).early p t q = some e) (i : Nat) (hi : i < ((netOf l0 l1).way p q t e).length) :
    ∃ (y : S23) (s : S45), rd_T45 (((netOf l0 l1).way p q t e).map stopOf) (i : Int) = s ∧ network_Find.f (l1.length + 1) l0 l1 s.f0 = some (findV (some y)) ∧ y.f2 ∈ l0 ∧ (((netOf l0 l1).way p q t e).map (·.1.dst)).getD i 0 = y.f2 := by
  obtain ⟨g3, _, _⟩ := hv.way_at hp he _ (List.getElem_mem hi)
  obtain ⟨y, hy, hyx⟩ := find_leg hv h16 g3
  have hd : y.f2 = (((netOf l0 l1).way p q t e)[i]).1.dst := by rw [← hyx]; rfl
  refine ⟨y, _, way_at hi, hy, by rw [hd]; exact hv.dst _ g3, ?_⟩
  rw [List.getD_eq_getElem?_getD, List.getElem?_eq_getElem (by rw [List.length_map]; exact hi), Option.getD_some, List.getElem_map, hd]
theorem fresh_at {p : Int} {D : List Int} (h : (p :: D).Nodup) {i : Nat} (hi : i < D.length) : (p :: D.take i).contains (D.getD i 0) = false := by
  have hs : p :: D = (p :: D.take i) ++ D[i] :: D.drop (i + 1) := by
    rw [List.cons_append, ← List.drop_eq_getElem_cons hi, List.take_append_drop]
  rw [hs, List.nodup_append] at h
  rw [List.getD_eq_getElem?_getD, List.getElem?_eq_getElem hi, Option.getD_some]
  cases hc : (p :: D.take i).contains D[i] with
  | false => rfl
  | true =>
    rw [List.contains_iff_mem] at hc
    exact absurd rfl (h.2.2 _ hc _ List.mem_cons_self)
/-- The last arrival of stops. -/
theorem endOf_rd (t : Int) : ∀ (l : List S45) (h : 0 < l.length), Net.endOf t (l.map st3) = (l[l.length - 1]).f2
  | [], h => by simp at h
  | [x], _ => rfl
  | x :: y :: l, _ => by
    have := endOf_rd x.f2 (y :: l) (by simp)
    simp only [List.map_cons, Net.endOf] at this ⊢
    rw [this]
    simp
theorem endOf_at (t : Int) (l : List S45) (h : 0 < l.length) : (rd_T45 l ((l.length : Int) - 1)).f2 = Net.endOf t (l.map st3) := by
  rw [endOf_rd t l h, show ((l.length : Int) - 1) = ((l.length - 1 : Nat) : Int) by omega, rd45_get (by omega)]
/-- Whether stops of as many come before others. -/
theorem less_l (l m : List S45) (hl : l.length = m.length) (h20 : l.length ≤ 100) : ∀ (j i : Nat) (k : Nat), i + j = l.length → 2 * j + 2 ≤ k → letterbaglaw33_less.l0 k l m (i : Int) = some (Net.ltI ((l.drop i).map (·.f0)) ((m.drop i).map (·.f0)))
  | 0, i, k, h, hk => by
    obtain ⟨k, rfl⟩ : ∃ k', k = k' + 2 := ⟨k - 2, by omega⟩
    rw [letterbaglaw33_less.l0, if_neg (by omega), letterbaglaw33_less.j1, if_neg (by simp), List.drop_eq_nil_of_le (by omega), List.drop_eq_nil_of_le (by omega)]
    simp [Net.ltI, hl]
  | j + 1, i, k, h, hk => by
    obtain ⟨k, rfl⟩ : ∃ k', k = k' + 2 := ⟨k - 2, by omega⟩
    have hi : i < l.length := by omega
    have hm : i < m.length := by omega
    rw [letterbaglaw33_less.l0, if_pos (by omega), letterbaglaw33_less.j1, if_pos (by simp; omega), if_pos (by omega), if_pos (by omega), if_pos (by omega), rd45_get hi, rd45_get hm, List.drop_eq_getElem_cons hi, List.drop_eq_getElem_cons hm, List.map_cons, List.map_cons, Net.ltI]
    by_cases he : l[i].f0 = m[i].f0
    · rw [if_pos he, if_pos he, w64 (by omega) (by omega)]
      exact less_l l m hl h20 j (i + 1) k (by omega) (by omega)
    · rw [if_neg he, if_neg he]
theorem less_f (l m : List S45) (hl : l.length = m.length) (h20 : l.length ≤ 100) : letterbaglaw33_less.f 300 l m = some (Net.ltI (l.map (·.f0)) (m.map (·.f0))) := by
  unfold letterbaglaw33_less.f
  have := less_l l m hl h20 l.length 0 300 (by omega) (by omega)
  simpa using this
theorem ids_map (l : List S45) : (l.map st3).map (·.1) = l.map (·.f0) := by rw [List.map_map]; rfl
end Go.Proofs.Ytdpadeklociinaa.PA
