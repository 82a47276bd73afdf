import Derived.Test.YtdpadeklociinaaHPureBase
import Derived.Test.YtdpadeklociinaaHRRight
import Derived.Test.YtdpadeklociinaaNAll
set_option linter.unusedVariables false
set_option linter.unusedSimpArgs false
namespace Go.Proofs.Ytdpadeklociinaa.PA
open Go.RowKit Go.Maps Go.Proofs.YtdpadeklociinaaW.PrintWords Go.Proofs.YtdpadeklociinaaW.PrintLast Go.Proofs.YtdpadeklociinaaW.PrintMore Go.Proofs.Ytdpadeklociinaa
/-! What the laws of the ways ask, at the program's own lists. -/
theorem st3_way (w : List (Net.Leg × Int)) : (w.map stopOf).map st3 = w.map Net.st := by rw [List.map_map]; rfl
theorem rd45_get {l : List S45} {i : Nat} (h : i < l.length) : rd_T45 l (i : Int) = l[i] := by
  unfold rd_T45
  rw [Int.toNat_natCast, List.getD_eq_getElem?_getD, List.getElem?_eq_getElem h]
  rfl
theorem rd23_get {l : List S23} {i : Nat} (h : i < l.length) : rd_T23 l (i : Int) = l[i] := by
  unfold rd_T23
  rw [Int.toNat_natCast, List.getD_eq_getElem?_getD, List.getElem?_eq_getElem h]
  rfl
theorem right_f {l0 : List Int} {l1 : List S23} (hI : netI l0 l1 = true) (hv : (netOf l0 l1).Valid) {p q t : Int} (hp : p ∈ l0) (hq : q ∈ l0) (h0 : 0 ≤ t) (h1 : t ≤ 1051898399) (l : List S45) : route_Right.f l0 l1 p q t l = some (Net.rightGo (netOf l0 l1) q p t (l.map st3)) := by
  unfold route_Right.f
  rw [if_pos ⟨hI, i64_plant hI hp, i64_plant hI hq, i64_small h0 h1⟩, if_pos (open_zero hv (fun x hx => by simp at hx; rcases hx with rfl | rfl; exact hp; exact hq) h0 h1)]
  rfl
/-- The leg of a stop is found. -/
theorem find_leg {l0 : List Int} {l1 : List S23} (hv : (netOf l0 l1).Valid) (h16 : l1.length ≤ 1000000) {x : Net.Leg} (hx : x ∈ (netOf l0 l1).legs) : ∃ y : S23, network_Find.f (l1.length + 1) l0 l1 x.id = some (findV (some y)) ∧ toLeg y = x := by
  have hf := Net.find_id _ hv.ids x hx
  rw [legs_find] at hf
  obtain ⟨y, hy, hyx⟩ := Option.map_eq_some_iff.1 hf
  exact ⟨y, by rw [find_of_f _ _ _ h16, hy], hyx⟩
theorem way_at {l0 : List Int} {l1 : List S23} {p q t e : Int} {i : Nat} (hi : i < ((netOf l0 l1).way p q t e).length) : rd_T45 (((netOf l0 l1).way p q t e).map stopOf) (i : Int) = stopOf ((netOf l0 l1).way p q t e)[i] := by
  rw [rd45_get (by rw [List.length_map]; exact hi), List.getElem_map]
/-- Behind each stop of the best way. -/
theorem joined_at {l0 : List Int} {l1 : List S23} (hI : netI l0 l1 = true) (hv : (netOf l0 l1).Valid) (h16 : l1.length ≤ 1000000) {p q t e : Int} (hp : p ∈ l0) (hq : q ∈ l0) (he : (netOf l0 l1).early p t q = some e) (i : Nat) (hi : i < ((netOf l0 l1).way p q t e).length) :
    ∃ (y : S23) (s : S45), rd_T45 (((netOf l0 l1).way p q t e).map stopOf) (i : Int) = s ∧ network_Find.f (l1.length + 1) l0 l1 s.f0 = some (findV (some y)) ∧ y.f2 ∈ l0 ∧ 0 ≤ s.f2 ∧ s.f2 ≤ 1051898399 ∧
      (netOf l0 l1).early y.f2 s.f2 q = some e ∧ route_Right.f l0 l1 y.f2 q s.f2 ((((netOf l0 l1).way p q t e).map stopOf).drop (i + 1)) = some true := by
  obtain ⟨g1, g2, g3⟩ := hv.joined hp he (((netOf l0 l1).way p q t e).take i) (((netOf l0 l1).way p q t e).drop (i + 1)) (((netOf l0 l1).way p q t e)[i]) (by rw [← List.drop_eq_getElem_cons hi, List.take_append_drop])
  obtain ⟨_, k1, k2⟩ := hv.way_at hp he _ (List.getElem_mem hi)
  obtain ⟨y, hy, hyx⟩ := find_leg hv h16 g3
  have hd : y.f2 = (((netOf l0 l1).way p q t e)[i]).1.dst := by rw [← hyx]; rfl
  have hdm : y.f2 ∈ l0 := by rw [hd]; exact hv.dst _ g3
  refine ⟨y, _, way_at hi, hy, hdm, k1, k2, ?_, ?_⟩
  · rw [hd]; exact g1
  · refine (right_f hI hv hdm hq k1 k2 _).trans ?_
    rw [← List.map_drop, st3_way, hd]
    exact congrArg some g2
/-! ### without a leg -/
theorem without_l (x : Int) (l : List S23) (p p' : List Int) (hl : l.length ≤ 1000) : ∀ (k i : Nat) (acc : List S23), i ≤ l.length → l.length < k + i → acc.length ≤ i →
    route_Without.l0 k x l (l.length : Int) (i : Int) p' l p acc = some (if (acc ++ (l.drop i).filter (fun y => decide (y.f0 ≠ x))).length = l.length then ([], [], 6) else (p, acc ++ (l.drop i).filter (fun y => decide (y.f0 ≠ x)), 0))
  | 0, i, acc, h1, h2, h3 => by omega
  | k + 1, i, acc, h1, h2, h3 => by
    simp only [route_Without.l0]
    by_cases hi : i < l.length
    · have hd : l.drop i = l[i] :: l.drop (i + 1) := List.drop_eq_getElem_cons hi
      rw [if_pos (by omega), if_pos (by omega), if_pos (by omega), rd23_get hi, w64 (by omega) (by omega), hd]
      by_cases he : l[i].f0 = x
      · rw [if_pos he, List.filter_cons_of_neg (by simpa using he)]
        exact without_l x l p p' hl k (i + 1) acc (by omega) (by omega) (by omega)
      · rw [if_neg he, if_pos (by omega), List.filter_cons_of_pos (by simpa using he)]
        have := without_l x l p p' hl k (i + 1) (acc ++ [l[i]]) (by omega) (by omega) (by simp; omega)
        rw [List.append_assoc, List.singleton_append] at this
        exact this
    · have : i = l.length := by omega
      subst this
      rw [if_neg (by omega), List.drop_length, List.filter_nil, List.append_nil]
      by_cases he : acc.length = l.length
      · rw [if_pos (by omega), if_pos he]
      · rw [if_neg (by omega), if_neg he]
theorem filter_all {l : List S23} {x : Int} (h : ∀ y ∈ l, y.f0 ≠ x) : l.filter (fun y => decide (y.f0 ≠ x)) = l := List.filter_eq_self.2 fun y hy => by simpa using h y hy
theorem filter_one (l : List S23) (hn : (l.map (·.f0)).Nodup) (j : Nat) (hj : j < l.length) : l.filter (fun y => decide (y.f0 ≠ l[j].f0)) = l.take j ++ l.drop (j + 1) := by
  have hs : l = l.take j ++ l[j] :: l.drop (j + 1) := by rw [← List.drop_eq_getElem_cons hj, List.take_append_drop]
  have hn' : ((l.take j ++ l[j] :: l.drop (j + 1)).map (·.f0)).Nodup := by rw [← hs]; exact hn
  rw [List.map_append, List.map_cons, List.nodup_append] at hn'
  obtain ⟨_, h2, h3⟩ := hn'
  have h4 := List.nodup_cons.1 h2
  generalize l[j] = x at hs h3 h4 h2
  conv => lhs; rw [hs]
  rw [List.filter_append, List.filter_cons_of_neg (by simp), filter_all (fun y hy e => ?_), filter_all (fun y hy e => ?_)]
  · exact h4.1 (List.mem_map.2 ⟨y, hy, e⟩)
  · exact h3 y.f0 (List.mem_map.2 ⟨y, hy, rfl⟩) x.f0 List.mem_cons_self e
/-- The network without a leg. -/
structure Less (l0 : List Int) (l1 m : List S23) (j : Nat) : Prop where
  inp : netI l0 m = true
  valid : (netOf l0 m).Valid
  len : m.length + 1 = l1.length
  sub : ∀ l ∈ (netOf l0 m).legs, l ∈ (netOf l0 l1).legs
  all : ∀ l ∈ (netOf l0 l1).legs, l.id ≠ (rd_T23 l1 j).f0 → l ∈ (netOf l0 m).legs
theorem less_of {l0 : List Int} {l1 : List S23} (hI : netI l0 l1 = true) (hv : (netOf l0 l1).Valid) (j : Nat) (hj : j < l1.length) : Less l0 l1 (l1.take j ++ l1.drop (j + 1)) j := by
  have hsub : (l1.take j ++ l1.drop (j + 1)).Sublist l1 := by
    have h1 : (l1.take j ++ l1.drop (j + 1)).Sublist (l1.take j ++ l1.drop j) := (List.Sublist.refl _).append (List.drop_sublist_drop_left l1 (Nat.le_succ j))
    rwa [List.take_append_drop] at h1
  have hmem : ∀ y ∈ l1.take j ++ l1.drop (j + 1), y ∈ l1 := fun y hy => hsub.subset hy
  have hlen : (l1.take j ++ l1.drop (j + 1)).length + 1 = l1.length := by simp; omega
  have hlm : (l1.take j ++ l1.drop (j + 1)).length ≤ l1.length := by omega
  have hs : ∀ l ∈ (netOf l0 (l1.take j ++ l1.drop (j + 1))).legs, l ∈ (netOf l0 l1).legs := fun l hl => by
    obtain ⟨y, hy, rfl⟩ := List.mem_map.1 hl
    exact List.mem_map.2 ⟨y, hmem y hy, rfl⟩
  refine ⟨?_, ⟨hv.many, ?_, hv.range, hv.nodup, fun l hl => hv.right l (hs l hl), fun l hl => hv.src l (hs l hl), fun l hl => hv.dst l (hs l hl), ?_⟩, hlen, hs, fun l hl hne => ?_⟩
  · unfold netI at hI ⊢
    simp only [Bool.and_eq_true, List.all_eq_true] at hI ⊢
    exact ⟨hI.1, fun y hy => hI.2 y (hmem y hy)⟩
  · have := hv.manyL
    show ((l1.take j ++ l1.drop (j + 1)).map toLeg).length ≤ 200
    have h2 : (l1.map toLeg).length ≤ 200 := this
    rw [List.length_map] at h2 ⊢
    omega
  · exact hv.ids.sublist ((hsub.map toLeg).map _)
  · obtain ⟨y, hy, rfl⟩ := List.mem_map.1 hl
    refine List.mem_map.2 ⟨y, ?_, rfl⟩
    rw [rd23_get hj] at hne
    have hn : (l1.map (·.f0)).Nodup := by have := hv.ids; rwa [show (netOf l0 l1).legs.map (·.id) = l1.map (·.f0) from toLeg_id l1] at this
    rw [← filter_one l1 hn j hj]
    exact List.mem_filter.2 ⟨hy, by simpa using (show y.f0 ≠ l1[j].f0 from hne)⟩
theorem without_f {l0 : List Int} {l1 : List S23} (hI : netI l0 l1 = true) (hv : (netOf l0 l1).Valid) (h16 : l1.length ≤ 16) (j : Nat) (hj : j < l1.length) (k : Nat) (hk : l1.length < k) (h9 : l0.length ≤ 9) : route_Without.f k l0 l1 (rd_T23 l1 j).f0 = some (l0, l1.take j ++ l1.drop (j + 1), 0) := by
  unfold route_Without.f
  have hn : (l1.map (·.f0)).Nodup := by have := hv.ids; rwa [show (netOf l0 l1).legs.map (·.id) = l1.map (·.f0) from toLeg_id l1] at this
  have hlen : (l1.take j ++ l1.drop (j + 1)).length + 1 = l1.length := by simp; omega
  rw [valid_f hI, Option.bind_some, if_pos (Net.errOf_of_valid hv)]
  unfold slices_Clone_int_int.f
  rw [if_pos (by omega), Option.bind_some, show (0 : Int) = ((0 : Nat) : Int) from rfl, without_l _ l1 l0 l0 (by omega) k 0 [] (Nat.zero_le _) (by omega) (Nat.le_refl _), List.drop_zero, List.nil_append, rd23_get hj, filter_one l1 hn j hj, if_neg (by omega)]
  rfl
/-- What is told of the network without a leg. -/
theorem without_facts {l0 : List Int} {l1 m : List S23} {j : Nat} (hv : (netOf l0 l1).Valid) (hm : Less l0 l1 m j) {p q t : Int} (hp : p ∈ l0) (h0 : 0 ≤ t) (h1 : t ≤ 1051898399) :
    (∀ x, 0 ≤ Net.enc ((netOf l0 m).early p t x) → 0 ≤ Net.enc ((netOf l0 l1).early p t x) ∧ Net.enc ((netOf l0 l1).early p t x) ≤ Net.enc ((netOf l0 m).early p t x)) ∧
    ((∀ s ∈ (wayV (netOf l0 l1) p q t).1, s.f0 ≠ (rd_T23 l1 j).f0) → wayV (netOf l0 m) p q t = wayV (netOf l0 l1) p q t) := by
  refine ⟨fun x hx => ?_, fun hs => ?_⟩
  · obtain ⟨v, hv', e, g1, _, _⟩ := Net.enc_pos h0 h1 hx
    obtain ⟨u, hu, hle⟩ := hv.fewer hp hm.sub hv'
    have := Net.Nw.early_good hu h1
    rw [e, hu]
    exact ⟨by simp [Net.enc]; omega, by simpa [Net.enc] using hle⟩
  · unfold wayV at hs ⊢
    cases he : (netOf l0 l1).early p t q with
    | none =>
      cases hem : (netOf l0 m).early p t q with
      | none => rfl
      | some v =>
        obtain ⟨u, hu, _⟩ := hv.fewer hp hm.sub hem
        rw [he] at hu; cases hu
    | some e =>
      rw [he] at hs
      dsimp only at hs ⊢
      obtain ⟨h2, h3⟩ := hv.without hm.valid rfl hm.sub hp he (fun x hx => by
        refine hm.all x.1 (hv.way_at hp he x hx).1 ?_
        exact hs (stopOf x) (List.mem_map.2 ⟨x, hx, rfl⟩))
      rw [h2]
      dsimp only
      rw [h3]
end Go.Proofs.Ytdpadeklociinaa.PA
