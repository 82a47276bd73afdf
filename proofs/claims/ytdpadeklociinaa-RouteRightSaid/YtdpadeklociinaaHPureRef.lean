import Derived.Test.YtdpadeklociinaaHFacts
import Derived.Test.YtdpadeklociinaaPAx17
set_option linter.unusedVariables false
set_option linter.unusedSimpArgs false
namespace Go.Proofs.Ytdpadeklociinaa.PA
open Go.RowKit Go.Maps Go.Proofs.YtdpadeklociinaaW.PrintWords Go.Proofs.YtdpadeklociinaaW.PrintLast Go.Proofs.YtdpadeklociinaaW.PrintMore Go.Proofs.Ytdpadeklociinaa
/-! The document's own functions of the networks, in plain Lean. -/
theorem in_f (a lo hi : Int) : letterbagref32_in.f a lo hi = some (decide (lo ≤ a) && decide (a ≤ hi)) := by
  unfold letterbagref32_in.f
  by_cases h : a ≥ lo
  · rw [if_pos h, decide_eq_true (show lo ≤ a from h), Bool.true_and]
  · rw [if_neg h, decide_eq_false (show ¬ lo ≤ a from h), Bool.false_and]
theorem ite_and (b c : Bool) : (if b = true then some c else some false) = some (b && c) := by cases b <;> rfl
theorem ite_ne (p : Prop) [Decidable p] (c : Bool) : (if p then some false else some c) = some (!decide p && c) := by
  by_cases h : p
  · rw [if_pos h, decide_eq_true h]; rfl
  · rw [if_neg h, decide_eq_false h]; rfl
theorem ite_ge (p : Prop) [Decidable p] (c : Bool) : (if p then some c else some false) = some (decide p && c) := by
  by_cases h : p
  · rw [if_pos h, decide_eq_true h]; rfl
  · rw [if_neg h, decide_eq_false h]; rfl
theorem right32_f (y : S23) : letterbagref32_Right.f y.f0 y.f1 y.f2 y.f3 y.f4 y.f5 y.f6 y.f7 = some (toLeg y).right := by
  unfold letterbagref32_Right.f
  simp only [in_f, Option.bind_some, ite_ge (y.f7 ≥ 1), ite_and, ite_ne]
  congr 1
  rw [Bool.eq_iff_iff, Net.Leg.right_iff]
  unfold toLeg
  simp only [Bool.and_eq_true, decide_eq_true_eq, Bool.not_eq_true', decide_eq_false_iff_not]
  omega
theorem has_l (l : List Int) (p : Int) (hl : l.length ≤ 1000) : ∀ (k i acc : Nat), i ≤ l.length → l.length < k + i → acc ≤ i → letterbagref32_has.l0 k l p (acc : Int) (i : Int) = some ((acc + (l.drop i).count p : Nat) : Int)
  | 0, i, acc, h1, h2, h3 => by omega
  | k + 1, i, acc, h1, h2, h3 => by
    simp only [letterbagref32_has.l0]
    by_cases hi : i < l.length
    · rw [if_pos (by omega), if_pos (by omega), rd_get hi, w64 (n := (i : Int) + 1) (by omega) (by omega), w64 (n := (acc : Int) + 1) (by omega) (by omega), List.drop_eq_getElem_cons hi, List.count_cons]
      by_cases he : l[i] = p
      · rw [if_pos he, if_pos (by simpa using he)]
        have := has_l l p hl k (i + 1) (acc + 1) (by omega) (by omega) (by omega)
        rw [show acc + ((l.drop (i + 1)).count p + 1) = acc + 1 + (l.drop (i + 1)).count p by omega]
        exact this
      · rw [if_neg he, if_neg (by simpa using he), Nat.add_zero]
        exact has_l l p hl k (i + 1) acc (by omega) (by omega) (by omega)
    · have : i = l.length := by omega
      subst this
      rw [if_neg (by omega), List.drop_length, List.count_nil, Nat.add_zero]
theorem has_f (l : List Int) (p : Int) (hl : l.length ≤ 1000) (k : Nat) (hk : l.length < k) : letterbagref32_has.f k l p = some ((l.count p : Nat) : Int) := by
  unfold letterbagref32_has.f
  have := has_l l p hl k 0 0 (Nat.zero_le _) (by omega) (Nat.le_refl _)
  simpa using this
section
variable (l0 : List Int) (l1 : List S23)
/-- Another leg with the same ID ahead. -/
theorem valid_l2 (h200 : l1.length ≤ 200) (y : S23) (i : Nat) (hi : i < l1.length) : ∀ (d j : Nat) (k : Nat), j + d = i → d + 1 ≤ k →
    letterbagref32_Valid.l2 k (i : Int) (j : Int) l0 l1 y.f0 y.f1 y.f2 y.f3 y.f4 y.f5 y.f6 y.f7 = (if (((l1.take i).drop j).map (·.f0)).contains y.f0 = true then some 321 else letterbagref32_Valid.l1 (k - (d + 1)) ((i : Int) + 1) l0 l1)
  | 0, j, k, h1, h2 => by
    obtain ⟨k, rfl⟩ : ∃ m, k = m + 1 := ⟨k - 1, by omega⟩
    rw [letterbagref32_Valid.l2, if_neg (by omega), w64 (by omega) (by omega), List.drop_eq_nil_of_le (by rw [List.length_take]; omega)]
    simp
  | d + 1, j, k, h1, h2 => by
    obtain ⟨k, rfl⟩ : ∃ m, k = m + 1 := ⟨k - 1, by omega⟩
    have hj : j < l1.length := by omega
    have hjt : j < (l1.take i).length := by rw [List.length_take]; omega
    rw [letterbagref32_Valid.l2, if_pos (by omega), if_pos (by omega), if_pos (by omega), rd23_get hj, w64 (by omega) (by omega), List.drop_eq_getElem_cons hjt, List.map_cons, List.contains_cons, List.getElem_take]
    by_cases he : l1[j].f0 = y.f0
    · rw [if_pos he, if_pos (by simp [he])]
    · rw [if_neg he]
      have := valid_l2 h200 y i hi d (j + 1) k (by omega) (by omega)
      rw [show k + 1 - (d + 1 + 1) = k - (d + 1) by omega]
      have hb : (y.f0 == l1[j].f0) = false := by simpa using fun e => he e.symm
      rw [hb, Bool.false_or]
      exact this
theorem valid_l1 (h50 : l0.length ≤ 50) (h200 : l1.length ≤ 200) : ∀ (d i : Nat) (k : Nat), i + d = l1.length → 300 * d + 300 ≤ k → Net.legsOk l0 ((l1.map toLeg).take i) = true →
    letterbagref32_Valid.l1 k (i : Int) l0 l1 = some (if Net.legsOk l0 (l1.map toLeg) = false then 321 else 0)
  | 0, i, k, h1, h2, h3 => by
    obtain ⟨k, rfl⟩ : ∃ m, k = m + 1 := ⟨k - 1, by omega⟩
    rw [letterbagref32_Valid.l1, if_neg (by omega)]
    rw [List.take_of_length_le (by rw [List.length_map]; omega)] at h3
    rw [h3]; rfl
  | d + 1, i, k, h1, h2, h3 => by
    obtain ⟨k, rfl⟩ : ∃ m, k = m + 1 := ⟨k - 1, by omega⟩
    have hi : i < l1.length := by omega
    have hiM : i < (l1.map toLeg).length := by rw [List.length_map]; exact hi
    have hg : (l1.map toLeg).getD i (toLeg z23) = toLeg l1[i] := by
      rw [List.getD_eq_getElem?_getD, List.getElem?_eq_getElem hiM, Option.getD_some, List.getElem_map]
    have bad : ¬ ((((l1.map toLeg).take i).map (·.id)).contains (toLeg l1[i]).id = false ∧ (toLeg l1[i]).right = true ∧ l0.contains (toLeg l1[i]).src = true ∧ l0.contains (toLeg l1[i]).dst = true) → some (321 : Int) = some (if Net.legsOk l0 (l1.map toLeg) = false then 321 else 0) := fun h => by
      have := Net.legsOk_false (pl := l0) (d := toLeg z23) hiM (by rw [hg]; exact h)
      rw [this]; rfl
    have hc : ∀ p : Int, (((l0.count p : Nat) : Int) = 0) ↔ l0.contains p = false := fun p => by
      rw [show (((l0.count p : Nat) : Int) = 0) ↔ l0.count p = 0 by omega, List.count_eq_zero]
      simp
    have hids : (((l1.map toLeg).take i).map (·.id)) = (l1.take i).map (·.f0) := by rw [← List.map_take, toLeg_id]
    rw [letterbagref32_Valid.l1, if_pos (by omega), if_pos (by omega), rd23_get hi, right32_f, Option.bind_some]
    by_cases hr : (toLeg l1[i]).right = true
    · rw [if_pos hr, has_f l0 _ (by omega) k (by omega), has_f l0 _ (by omega) k (by omega), Option.bind_some, Option.bind_some]
      obtain ⟨k, rfl⟩ : ∃ m, k = m + 1 := ⟨k - 1, by omega⟩
      by_cases hs : l0.contains l1[i].f1 = true
      · rw [if_neg (fun h => by rw [(hc _).1 h] at hs; cases hs)]
        by_cases hd : l0.contains l1[i].f2 = true
        · have hb : ((((l0.count l1[i].f2 : Nat) : Int)) == 0) = false := by
            rw [beq_eq_false_iff_ne]
            exact fun h => by rw [(hc _).1 h] at hd; cases hd
          rw [hb, letterbagref32_Valid.j3, if_neg (by simp), show (0 : Int) = ((0 : Nat) : Int) from rfl, valid_l2 l0 l1 h200 l1[i] i hi i 0 k (by omega) (by omega), List.drop_zero]
          by_cases hdup : (((l1.take i).map (·.f0)).contains l1[i].f0) = true
          · rw [if_pos hdup]
            refine bad fun h => ?_
            rw [hids] at h
            have h4 : ((l1.take i).map (·.f0)).contains l1[i].f0 = false := h.1
            rw [hdup] at h4; cases h4
          · rw [if_neg hdup]
            have hdup' : ((l1.take i).map (·.f0)).contains l1[i].f0 = false := by simpa using hdup
            have := valid_l1 h50 h200 d (i + 1) (k - (i + 1)) (by omega) (by omega) (by
              rw [Net.take_succ_getD _ (toLeg z23) i hiM, hg]
              refine (Net.legsOk_snoc _ _ _).2 ⟨h3, ?_, hr, hs, hd⟩
              rw [hids]; exact hdup')
            rw [show ((i : Int) + 1) = ((i + 1 : Nat) : Int) by omega]
            exact this
        · have hb : ((((l0.count l1[i].f2 : Nat) : Int)) == 0) = true := by
            rw [beq_iff_eq]
            exact (hc _).2 (by simpa using hd)
          rw [hb, letterbagref32_Valid.j3, if_pos rfl]
          exact bad fun h => hd h.2.2.2
      · rw [if_pos ((hc _).2 (by simpa using hs)), letterbagref32_Valid.j3, if_pos rfl]
        exact bad fun h => hs h.2.2.1
    · rw [if_neg hr]
      obtain ⟨k, rfl⟩ : ∃ m, k = m + 1 := ⟨k - 1, by omega⟩
      rw [letterbagref32_Valid.j3, if_pos rfl]
      exact bad fun h => hr h.2.1
theorem valid_l0 (h50 : l0.length ≤ 50) (h200 : l1.length ≤ 200) : ∀ (d i : Nat) (k : Nat), i + d = l0.length → d + 61000 ≤ k → (∀ p ∈ l0.take i, (1 ≤ p ∧ p ≤ 999999) ∧ l0.count p ≤ 1) →
    letterbagref32_Valid.l0 k (i : Int) l0 l1 = some (if Net.plantsOk l0 = false then 320 else if Net.legsOk l0 (l1.map toLeg) = false then 321 else 0)
  | 0, i, k, h1, h2, h3 => by
    obtain ⟨k, rfl⟩ : ∃ m, k = m + 1 := ⟨k - 1, by omega⟩
    have hp : Net.plantsOk l0 = true := by
      unfold Net.plantsOk
      simp only [Bool.and_eq_true, decide_eq_true_eq, List.all_eq_true]
      rw [List.take_of_length_le (by omega)] at h3
      refine ⟨List.nodup_iff_count.2 fun p => ?_, fun p hp => (h3 p hp).1⟩
      by_cases hm : p ∈ l0
      · exact (h3 p hm).2
      · rw [List.count_eq_zero.2 hm]; omega
    rw [letterbagref32_Valid.l0, if_neg (by omega), hp, if_neg (by simp)]
    have := valid_l1 l0 l1 h50 h200 l1.length 0 k (by omega) (by omega) (by simp [Net.legsOk])
    exact this
  | d + 1, i, k, h1, h2, h3 => by
    obtain ⟨k, rfl⟩ : ∃ m, k = m + 1 := ⟨k - 1, by omega⟩
    have hi : i < l0.length := by omega
    have bad : ¬ ((1 ≤ l0[i] ∧ l0[i] ≤ 999999) ∧ l0.count l0[i] ≤ 1) → some (320 : Int) = some (if Net.plantsOk l0 = false then 320 else if Net.legsOk l0 (l1.map toLeg) = false then 321 else 0) := fun h => by
      have : Net.plantsOk l0 = false := by
        cases hp : Net.plantsOk l0 with
        | false => rfl
        | true =>
          unfold Net.plantsOk at hp
          simp only [Bool.and_eq_true, decide_eq_true_eq, List.all_eq_true] at hp
          exact absurd ⟨hp.2 _ (List.getElem_mem hi), List.nodup_iff_count.1 hp.1 _⟩ h
      rw [this]; rfl
    rw [letterbagref32_Valid.l0, if_pos (by omega), if_pos (by omega), rd_get hi, in_f, Option.bind_some]
    by_cases hr : 1 ≤ l0[i] ∧ l0[i] ≤ 999999
    · rw [if_pos (by simp [hr.1, hr.2]), has_f l0 _ (by omega) k (by omega), Option.bind_some]
      by_cases hc : l0.count l0[i] ≤ 1
      · rw [if_neg (by omega), w64 (by omega) (by omega)]
        have := valid_l0 h50 h200 d (i + 1) k (by omega) (by omega) (fun p hp => by
          rw [List.take_succ_eq_append_getElem hi] at hp
          rcases List.mem_append.1 hp with hp | hp
          · exact h3 p hp
          · obtain rfl : p = l0[i] := by simpa using hp
            exact ⟨hr, hc⟩)
        exact this
      · rw [if_pos (by omega)]
        exact bad fun h => hc h.2
    · rw [if_neg (by simp only [Bool.and_eq_true, decide_eq_true_eq]; exact hr)]
      exact bad fun h => hr h.1
/-- What is wrong with a network: as the document says. -/
theorem valid32_f (k : Nat) (hk : 62000 ≤ k) : letterbagref32_Valid.f k l0 l1 = some (Net.errOf l0 (l1.map toLeg)) := by
  unfold letterbagref32_Valid.f Net.errOf
  obtain ⟨k, rfl⟩ : ∃ m, k = m + 1 := ⟨k - 1, by omega⟩
  rw [List.length_map]
  by_cases h1 : l0.length > 50
  · rw [if_pos (by omega), letterbagref32_Valid.j0, if_pos rfl, if_pos (by omega)]
  · rw [if_neg (by omega)]
    by_cases h2 : l1.length > 200
    · rw [decide_eq_true (by omega), letterbagref32_Valid.j0, if_pos rfl, if_pos (by omega)]
    · rw [decide_eq_false (by omega), letterbagref32_Valid.j0, if_neg (by simp), if_neg (by omega)]
      exact valid_l0 l0 l1 (by omega) (by omega) l0.length 0 k (by omega) (by omega) (by simp)
theorem plant_l (p : Int) (hl : l0.length ≤ 1000) : ∀ (k i : Nat), i ≤ l0.length → l0.length < k + i → (∀ j, j < i → l0[j]? ≠ some p) → letterbagref33_plant.l0 k p (i : Int) l0 l1 = some (placeV l0 p)
  | 0, i, h1, h2, _ => by omega
  | k + 1, i, h1, h2, hno => by
    simp only [letterbagref33_plant.l0]
    by_cases hi : i < l0.length
    · rw [if_pos (by omega), if_pos (by omega), rd_get hi]
      by_cases he : l0[i] = p
      · rw [if_pos he]
        have hm : p ∈ l0 := he ▸ List.getElem_mem hi
        have hix : l0.idxOf p = i := by
          have hlt := List.idxOf_lt_length_of_mem hm
          rcases Nat.lt_trichotomy (l0.idxOf p) i with h | h | h
          · exfalso
            exact hno _ h (by rw [List.getElem?_eq_getElem hlt, List.getElem_idxOf])
          · exact h
          · have := idx_le p l0 i (by rw [List.getElem?_eq_getElem hi, he])
            omega
        unfold placeV
        rw [if_pos hm, hix]
      · rw [if_neg he, w64 (by omega) (by omega)]
        refine plant_l p hl k (i + 1) (by omega) (by omega) (fun j hj => ?_)
        by_cases hj' : j < i
        · exact hno j hj'
        · obtain rfl : j = i := by omega
          rw [List.getElem?_eq_getElem hi]
          simpa using he
    · have : i = l0.length := by omega
      subst this
      rw [if_neg (by omega)]
      have hm : p ∉ l0 := fun hm => by
        have hlt := List.idxOf_lt_length_of_mem hm
        exact hno _ hlt (by rw [List.getElem?_eq_getElem hlt, List.getElem_idxOf])
      unfold placeV
      rw [if_neg hm]
theorem plant_f (p : Int) (hl : l0.length ≤ 1000) (k : Nat) (hk : l0.length < k) : letterbagref33_plant.f k l0 l1 p = some (placeV l0 p) := by
  unfold letterbagref33_plant.f
  exact plant_l l0 l1 p hl k 0 (Nat.zero_le _) (by omega) (fun j h => by omega)
theorem placeV_lt (p : Int) : placeV l0 p < 0 ↔ l0.contains p = false := by
  by_cases h : p ∈ l0
  · rw [placeV_pos h]; simp [h]
  · rw [placeV_neg h]; simp [h]
/-- What is wrong with a network, two plants and a time. -/
theorem check_f (a b t : Int) (k : Nat) (hk : 62000 ≤ k) : letterbagref33_check.f k l0 l1 a b t = some ((netOf l0 l1).openErr t [a, b]) := by
  unfold letterbagref33_check.f
  rw [valid32_f l0 l1 k hk, Option.bind_some]
  obtain ⟨k, rfl⟩ : ∃ m, k = m + 1 := ⟨k - 1, by omega⟩
  by_cases he : Net.errOf l0 (l1.map toLeg) = 0
  · have hl : l0.length ≤ 50 := (Net.valid_of_errOf he).many
    have hR : (netOf l0 l1).openErr t [a, b] = if (l0.contains a && l0.contains b) && decide (0 ≤ t) && decide (t ≤ 1051898399) then 0 else 2 := by
      unfold Net.Nw.openErr
      rw [if_neg (show ¬ Net.errOf (netOf l0 l1).plants (netOf l0 l1).legs ≠ 0 from fun h => h he)]
      show (if (List.all [a, b] fun p => l0.contains p) && decide (0 ≤ t) && decide (t ≤ 1051898399) then 0 else 2) = _
      simp only [List.all_cons, List.all_nil, Bool.and_true]
    rw [if_pos he, plant_f l0 l1 a (by omega) (k + 1) (by omega), plant_f l0 l1 b (by omega) (k + 1) (by omega), hR]
    simp only [Option.bind_some, letterbagref33_check.j0, if_true]
    by_cases ha : l0.contains a = true
    · rw [if_neg (fun h => by rw [(placeV_lt l0 a).1 h] at ha; cases ha), ha]
      by_cases hb : l0.contains b = true
      · rw [if_neg (fun h => by rw [(placeV_lt l0 b).1 h] at hb; cases hb), hb]
        by_cases h0 : t < 0
        · rw [if_pos h0, decide_eq_false (show ¬ 0 ≤ t by omega)]; rfl
        · rw [if_neg h0, decide_eq_true (show 0 ≤ t by omega)]
          by_cases h1 : t > 1051898399
          · rw [decide_eq_true h1, decide_eq_false (show ¬ t ≤ 1051898399 by omega)]; rfl
          · rw [decide_eq_false h1, decide_eq_true (show t ≤ 1051898399 by omega)]; rfl
      · have hb' : l0.contains b = false := by simpa using hb
        rw [if_pos ((placeV_lt l0 b).2 hb'), hb']; rfl
    · have ha' : l0.contains a = false := by simpa using ha
      rw [if_pos ((placeV_lt l0 a).2 ha'), ha']; rfl
  · have hR : (netOf l0 l1).openErr t [a, b] = Net.errOf l0 (l1.map toLeg) := by
      unfold Net.Nw.openErr
      rw [if_pos (show Net.errOf (netOf l0 l1).plants (netOf l0 l1).legs ≠ 0 from he)]
      rfl
    rw [if_neg he, hR]
theorem find32_l (id : Int) (hl : l1.length ≤ 1000000) : ∀ (k : Nat) (i : Nat), i ≤ l1.length → l1.length < k + i → letterbagref32_Find.l0 k id (i : Int) l0 l1 = some (findV ((l1.drop i).find? fun x => decide (x.f0 = id)))
  | 0, i, h1, h2 => by omega
  | k + 1, i, h1, h2 => by
    simp only [letterbagref32_Find.l0]
    by_cases hi : i < l1.length
    · rw [if_pos (by omega), if_pos (by omega), rd23_get hi, List.drop_eq_getElem_cons hi, List.find?_cons]
      by_cases he : l1[i].f0 = id
      · rw [if_pos he, decide_eq_true he]
        rfl
      · rw [if_neg he, decide_eq_false he, w64 (by omega) (by omega)]
        exact find32_l id hl k (i + 1) (by omega) (by omega)
    · have : i = l1.length := by omega
      subst this
      rw [if_neg (by omega), List.drop_length]
      rfl
theorem find32_f (id : Int) (hl : l1.length ≤ 1000000) (k : Nat) (hk : l1.length < k) : letterbagref32_Find.f k l0 l1 id = some (findV (l1.find? fun x => decide (x.f0 = id))) := by
  unfold letterbagref32_Find.f
  have := find32_l l0 l1 id hl k 0 (Nat.zero_le _) (by omega)
  simpa using this
end
theorem div_div (x c : Int) : x / 2 / c = x / (2 * c) := by
  first | exact Int.ediv_ediv_of_nonneg (by omega) | exact Int.ediv_ediv (by omega) | exact Int.ediv_ediv_eq_ediv_mul x (by omega)
theorem runs_l (n : Nat) (hn : n ≤ 7) : ∀ (d i : Nat) (x : Int) (k : Nat), i + d = n → d + 1 ≤ k → 0 ≤ x → x ≤ 255 → letterbagref32_runs.l0 k (n : Int) x (i : Int) = some (decide (x / 2 ^ d % 2 = 1))
  | 0, i, x, k, h1, h2, h3, h4 => by
    obtain ⟨k, rfl⟩ : ∃ m, k = m + 1 := ⟨k - 1, by omega⟩
    rw [letterbagref32_runs.l0, if_neg (by omega), Int.tmod_eq_emod_of_nonneg h3]
    congr 1
    rw [Bool.eq_iff_iff, beq_iff_eq, decide_eq_true_eq]
    simp
  | d + 1, i, x, k, h1, h2, h3, h4 => by
    obtain ⟨k, rfl⟩ : ∃ m, k = m + 1 := ⟨k - 1, by omega⟩
    rw [letterbagref32_runs.l0, if_pos (by omega), Int.tdiv_eq_ediv_of_nonneg h3, w64 (n := x / 2) (by omega) (by omega), w64 (by omega) (by omega)]
    have := runs_l n hn d (i + 1) (x / 2) k (by omega) (by omega) (by omega) (by omega)
    rw [show ((i : Int) + 1) = ((i + 1 : Nat) : Int) by omega, this]
    congr 2
    rw [Int.pow_succ, Int.mul_comm, div_div x (2 ^ d)]
theorem on32_f (y : S23) (hy : 0 ≤ y.f7 ∧ y.f7 ≤ 255) (day : Int) (k : Nat) (hk : 20 ≤ k) : letterbagref32_On.f k y.f0 y.f1 y.f2 y.f3 y.f4 y.f5 y.f6 y.f7 day = some (match Net.onDay (toLeg y) day with | some d => (d, d + y.f4, true) | none => (0, 0, false)) := by
  obtain ⟨k, rfl⟩ : ∃ m, k = m + 1 := ⟨k - 1, by omega⟩
  unfold letterbagref32_On.f
  rw [right32_f, Option.bind_some]
  have none_ : ∀ (h : Net.onDay (toLeg y) day = none), (some (0, 0, false) : Option (Int × Int × Bool)) = some (match Net.onDay (toLeg y) day with | some d => (d, d + y.f4, true) | none => (0, 0, false)) := fun h => by rw [h]
  by_cases hr : (toLeg y).right = true
  · rw [if_pos hr, in_f, Option.bind_some]
    have hr' := (Net.Leg.right_iff _).1 hr
    have hr4 : 1 ≤ y.f4 ∧ y.f4 ≤ 20160 := ⟨hr'.2.2.2.2.2.2.2.2.1, hr'.2.2.2.2.2.2.2.2.2.1⟩
    have hr3 : 0 ≤ y.f3 ∧ y.f3 ≤ 1439 := ⟨hr'.2.2.2.2.2.2.1, hr'.2.2.2.2.2.2.2.1⟩
    have hr5 : 0 ≤ y.f5 ∧ y.f5 ≤ 10080 := ⟨hr'.2.2.2.2.2.2.2.2.2.2.1, hr'.2.2.2.2.2.2.2.2.2.2.2.1⟩
    by_cases hd : 0 ≤ day ∧ day ≤ 730484
    · rw [if_pos (by simp [hd.1, hd.2])]
      have hm : Int.tmod day 7 = ((day % 7).toNat : Int) := by rw [Int.tmod_eq_emod_of_nonneg hd.1]; omega
      have hrun : letterbagref32_runs.f (k + 1) y.f0 y.f1 y.f2 y.f3 y.f4 y.f5 y.f6 y.f7 (Int.tmod day 7) = some (Net.bitOf y.f7 day) := by
        unfold letterbagref32_runs.f
        rw [w64 (by omega) (by omega), hm]
        have := runs_l (day % 7).toNat (by omega) (day % 7).toNat 0 y.f7 (k + 1) (by omega) (by omega) hy.1 hy.2
        exact this
      rw [hrun, Option.bind_some, letterbagref32_On.j0]
      by_cases hb : Net.bitOf y.f7 day = true
      · rw [hb, if_neg (by simp), w64 (n := day * 1440) (by omega) (by omega), w64 (n := day * 1440 + y.f3) (by omega) (by omega), w64 (n := day * 1440 + y.f3 - y.f5) (by omega) (by omega), w64 (n := day * 1440 + y.f3 + y.f4) (by omega) (by omega)]
        by_cases h1 : day * 1440 + y.f3 - y.f5 < 0
        · rw [if_pos h1]
          refine none_ ?_
          cases ho : Net.onDay (toLeg y) day with
          | none => rfl
          | some d =>
            have := Net.onDay_some ho
            have e5 : (toLeg y).cut = y.f5 := rfl
            have e3 : (toLeg y).dep = y.f3 := rfl
            omega
        · rw [if_neg h1]
          by_cases h2 : day * 1440 + y.f3 + y.f4 > 1051898399
          · rw [if_pos h2]
            refine none_ ?_
            cases ho : Net.onDay (toLeg y) day with
            | none => rfl
            | some d =>
              have := Net.onDay_some ho
              have e4 : (toLeg y).mins = y.f4 := rfl
              have e3 : (toLeg y).dep = y.f3 := rfl
              omega
          · rw [if_neg h2]
            have := Net.onDay_mk (l := toLeg y) (day := day) hr hd.1 hd.2 hb (show y.f5 ≤ 1440 * day + y.f3 by omega) (show 1440 * day + y.f3 + y.f4 ≤ 1051898399 by omega)
            rw [this]
            show _ = some (1440 * day + y.f3, 1440 * day + y.f3 + y.f4, true)
            rw [Int.mul_comm day 1440]
      · have hb' : Net.bitOf y.f7 day = false := by simpa using hb
        rw [hb', if_pos (by simp)]
        refine none_ ?_
        cases ho : Net.onDay (toLeg y) day with
        | none => rfl
        | some d =>
          have := (Net.onDay_some ho).2.2.2.1
          exact absurd this hb
    · rw [if_neg (by simp only [Bool.and_eq_true, decide_eq_true_eq]; exact hd), letterbagref32_On.j0, if_pos rfl]
      refine none_ ?_
      cases ho : Net.onDay (toLeg y) day with
      | none => rfl
      | some d => have := Net.onDay_some ho; exact absurd ⟨this.2.1, this.2.2.1⟩ hd
  · rw [if_neg hr, letterbagref32_On.j0, if_pos rfl]
    refine none_ ?_
    cases ho : Net.onDay (toLeg y) day with
    | none => rfl
    | some d => exact absurd (Net.onDay_some ho).1 hr
end Go.Proofs.Ytdpadeklociinaa.PA
