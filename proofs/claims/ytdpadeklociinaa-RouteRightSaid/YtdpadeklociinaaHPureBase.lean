import Derived.Test.YtdpadeklociinaaPAx6
import Derived.Test.YtdpadeklociinaaHArrive
import Derived.Test.YtdpadeklociinaaNAll
set_option linter.unusedVariables false
set_option linter.unusedSimpArgs false
namespace Go.Proofs.Ytdpadeklociinaa.PA
open Go.RowKit Go.Maps Go.Proofs.YtdpadeklociinaaW.PrintWords Go.Proofs.YtdpadeklociinaaW.PrintLast Go.Proofs.YtdpadeklociinaaW.PrintMore Go.Proofs.Ytdpadeklociinaa
/-! What the laws of the routes share, in plain Lean. -/
theorem more_rounds {α : Type} {f : Nat → Option α} (hm : ∀ k, LeO (f k) (f (k + 1))) {k : Nat} {r : α} (h : f k = some r) : ∀ j, f (k + j) = some r
  | 0 => h
  | j + 1 => hm (k + j) r (more_rounds hm h j)
theorem awake_at (j : Nat) : letterbaglaw33_awake.f (10 + j) = some true := more_rounds letterbaglaw33_awake.mono awake_f j
theorem rd_get {l : List Int} {i : Nat} (h : i < l.length) : rd l (i : Int) = l[i] := by
  unfold rd
  rw [Int.toNat_natCast, List.getD_eq_getElem?_getD, List.getElem?_eq_getElem h]
  rfl
theorem w64 {n : Int} (h : -9223372036854775808 ≤ n) (h' : n ≤ 9223372036854775807) : wrap64 n = n := by unfold wrap64; omega

theorem idx_le (p : Int) : ∀ (l : List Int) (i : Nat), l[i]? = some p → l.idxOf p ≤ i
  | [], i, h => by simp at h
  | x :: l, i, h => by
    rw [List.idxOf_cons]
    by_cases hx : x = p
    · simp [hx]
    · have hb : (x == p) = false := by simpa using hx
      rw [hb]
      cases i with
      | zero => simp at h; exact absurd h hx
      | succ i =>
        have := idx_le p l i (by simpa using h)
        simp
        omega
/-- The place of a plant. -/
def placeV (l : List Int) (p : Int) : Int := if p ∈ l then (l.idxOf p : Int) else -1
theorem place_l (p : Int) (l0 : List Int) (l1 : List S23) (hl : l0.length ≤ 1000) : ∀ (k i : Nat), i ≤ l0.length → l0.length < k + i → (∀ j, j < i → l0[j]? ≠ some p) → letterbaglaw33_place.l0 k p (i : Int) l0 l1 = some (placeV l0 p)
  | 0, i, h1, h2, _ => by omega
  | k + 1, i, h1, h2, hno => by
    simp only [letterbaglaw33_place.l0]
    by_cases hi : i < l0.length
    · rw [if_pos (by omega), if_pos (by omega), rd_get hi]
      by_cases he : l0[i] = p
      · rw [if_pos he]
        have hm : p ∈ l0 := he ▸ List.getElem_mem hi
        have hix : l0.idxOf p = i := by
          have hlt := List.idxOf_lt_length_of_mem hm
          rcases Nat.lt_trichotomy (l0.idxOf p) i with h | h | h
          · exfalso
            exact hno _ h (by rw [List.getElem?_eq_getElem hlt, List.getElem_idxOf])
          · exact h
          · have := idx_le p l0 i (by rw [List.getElem?_eq_getElem hi, he])
            omega
        unfold placeV
        rw [if_pos hm, hix]
      · rw [if_neg he, w64 (by omega) (by omega)]
        refine place_l p l0 l1 hl k (i + 1) (by omega) (by omega) (fun j hj => ?_)
        by_cases hj' : j < i
        · exact hno j hj'
        · obtain rfl : j = i := by omega
          rw [List.getElem?_eq_getElem hi]
          simpa using he
    · have : i = l0.length := by omega
      subst this
      rw [if_neg (by omega)]
      have hm : p ∉ l0 := fun hm => by
        have hlt := List.idxOf_lt_length_of_mem hm
        exact hno _ hlt (by rw [List.getElem?_eq_getElem hlt, List.getElem_idxOf])
      unfold placeV
      rw [if_neg hm]
theorem place_f (p : Int) (l0 : List Int) (l1 : List S23) (hl : l0.length ≤ 1000) (k : Nat) (hk : l0.length < k) : letterbaglaw33_place.f k l0 l1 p = some (placeV l0 p) := by
  unfold letterbaglaw33_place.f
  exact place_l p l0 l1 hl k 0 (Nat.zero_le _) (by omega) (fun j h => by omega)

/-- A network that a law looks at. -/
structure Fit (l0 : List Int) (l1 : List S23) (a b t : Int) : Prop where
  nine : l0.length ≤ 9
  legs : l1.length ≤ 16
  valid : (netOf l0 l1).Valid
  inA : a ∈ l0
  inB : b ∈ l0
  t0 : 0 ≤ t
  t1 : t ≤ 1051898399
theorem valid_f {l0 : List Int} {l1 : List S23} (hI : netI l0 l1 = true) : network_Valid.f l0 l1 = some (Net.errOf l0 (l1.map toLeg)) := by unfold network_Valid.f; rw [if_pos hI]
theorem great_f {l0 : List Int} {l1 : List S23} (hI : netI l0 l1 = true) : letterbaglaw33_great.f l0 l1 = some true ∨ (letterbaglaw33_great.f l0 l1 = some false ∧ ((l0.length ≤ 9 ∧ l1.length ≤ 16) ∨ Net.errOf l0 (l1.map toLeg) ≠ 0)) := by
  unfold letterbaglaw33_great.f
  rw [valid_f hI]
  simp only [Option.bind_some]
  by_cases h1 : (l0.length : Int) > 260
  · rw [if_pos h1]; exact .inl rfl
  rw [if_neg h1]
  by_cases h2 : (l1.length : Int) > 260
  · rw [if_pos h2]; exact .inl rfl
  rw [if_neg h2]
  by_cases h3 : (l0.length : Int) > 9
  · rw [if_pos h3]
    by_cases he : Net.errOf l0 (l1.map toLeg) = 0
    · left; rw [he]; rfl
    · right; refine ⟨?_, .inr he⟩; congr 1; simpa using he
  rw [if_neg h3]
  by_cases h4 : (l1.length : Int) > 16
  · rw [if_pos h4]
    by_cases he : Net.errOf l0 (l1.map toLeg) = 0
    · left; rw [he]; rfl
    · right; refine ⟨?_, .inr he⟩; congr 1; simpa using he
  rw [if_neg h4]
  exact .inr ⟨rfl, .inl ⟨by omega, by omega⟩⟩
theorem placeV_neg {l : List Int} {p : Int} (h : p ∉ l) : placeV l p = -1 := by unfold placeV; rw [if_neg h]
theorem placeV_pos {l : List Int} {p : Int} (h : p ∈ l) : placeV l p = (l.idxOf p : Int) := by unfold placeV; rw [if_pos h]
theorem fits_f {l0 : List Int} {l1 : List S23} (hI : netI l0 l1 = true) (a b t : Int) (j : Nat) : letterbaglaw33_fits.f (10 + j) l0 l1 a b t = some false ∨ (letterbaglaw33_fits.f (10 + j) l0 l1 a b t = some true ∧ Fit l0 l1 a b t) := by
  unfold letterbaglaw33_fits.f
  rcases great_f hI with h | ⟨h, hc⟩
  · rw [h]; exact .inl rfl
  rw [h, valid_f hI]
  simp only [Option.bind_some, Bool.false_eq_true, if_false]
  by_cases he : Net.errOf l0 (l1.map toLeg) = 0
  · rw [if_pos he]
    obtain ⟨h9, h16⟩ : l0.length ≤ 9 ∧ l1.length ≤ 16 := hc.resolve_right (fun h => h he)
    have hv : (netOf l0 l1).Valid := Net.valid_of_errOf he
    rw [place_f a l0 l1 (by omega) _ (by omega), place_f b l0 l1 (by omega) _ (by omega)]
    simp only [Option.bind_some]
    by_cases ha : a ∈ l0
    · rw [placeV_pos ha, if_pos (by omega)]
      by_cases hb : b ∈ l0
      · rw [placeV_pos hb, if_pos (by omega)]
        by_cases h0 : t ≥ 0
        · rw [if_pos h0]
          by_cases h1 : t ≤ 1051898399
          · right; exact ⟨by simp [h1], ⟨h9, h16, hv, ha, hb, h0, h1⟩⟩
          · left; simp [h1]
        · rw [if_neg h0]; exact .inl rfl
      · rw [placeV_neg hb, if_neg (by omega)]; exact .inl rfl
    · rw [placeV_neg ha, if_neg (by omega)]; exact .inl rfl
  · rw [if_neg he]; exact .inl rfl

theorem open_zero {l0 : List Int} {l1 : List S23} {t : Int} {ps : List Int} (hv : (netOf l0 l1).Valid) (hps : ∀ p ∈ ps, p ∈ l0) (h0 : 0 ≤ t) (h1 : t ≤ 1051898399) : (netOf l0 l1).openErr t ps = 0 := by
  unfold Net.Nw.openErr
  have he : Net.errOf (netOf l0 l1).plants (netOf l0 l1).legs = 0 := Net.errOf_of_valid hv
  rw [if_neg (by simp [he]), if_pos]
  simp only [Bool.and_eq_true, List.all_eq_true, decide_eq_true_eq]
  exact ⟨⟨fun p hp => List.contains_iff_mem.2 (hps p hp), h0⟩, h1⟩
theorem i64_small {t : Int} (h0 : 0 ≤ t) (h1 : t ≤ 1051898399) : I64B t = true := by
  unfold I64B
  simp only [Bool.and_eq_true, decide_eq_true_eq]
  omega
theorem i64_plant {l0 : List Int} {l1 : List S23} (hI : netI l0 l1 = true) {p : Int} (h : p ∈ l0) : I64B p = true := by
  unfold netI at hI
  simp only [Bool.and_eq_true, List.all_eq_true] at hI
  exact hI.1 p h
theorem arrive_f {l0 : List Int} {l1 : List S23} (hI : netI l0 l1 = true) (hv : (netOf l0 l1).Valid) {p t : Int} (hp : p ∈ l0) (h0 : 0 ≤ t) (h1 : t ≤ 1051898399) : route_Arrive.f l0 l1 p t = some ((netOf l0 l1).arriveL p t, 0) := by
  unfold route_Arrive.f
  rw [if_pos ⟨hI, i64_plant hI hp, i64_small h0 h1⟩, if_pos (open_zero hv (fun q hq => by simp at hq; rw [hq]; exact hp) h0 h1)]
theorem leave_f {l0 : List Int} {l1 : List S23} (hI : netI l0 l1 = true) (hv : (netOf l0 l1).Valid) {p t : Int} (hp : p ∈ l0) (h0 : 0 ≤ t) (h1 : t ≤ 1051898399) : route_Leave.f l0 l1 p t = some ((netOf l0 l1).leaveL p t, 0) := by
  unfold route_Leave.f
  rw [if_pos ⟨hI, i64_plant hI hp, i64_small h0 h1⟩, if_pos (open_zero hv (fun q hq => by simp at hq; rw [hq]; exact hp) h0 h1)]
def wayV (N : Net.Nw) (p q t : Int) : List S45 × Int := match N.early p t q with
  | some e => ((N.way p q t e).map stopOf, 0)
  | none => ([], 6)
theorem way_f {l0 : List Int} {l1 : List S23} (hI : netI l0 l1 = true) (hv : (netOf l0 l1).Valid) {p q t : Int} (hp : p ∈ l0) (hq : q ∈ l0) (h0 : 0 ≤ t) (h1 : t ≤ 1051898399) : route_Way.f l0 l1 p q t = some (wayV (netOf l0 l1) p q t) := by
  unfold route_Way.f
  rw [if_pos ⟨hI, i64_plant hI hp, i64_plant hI hq, i64_small h0 h1⟩, if_pos (open_zero hv (fun x hx => by simp at hx; rcases hx with rfl | rfl; exact hp; exact hq) h0 h1)]
  rfl
theorem same_l (l : List S45) (hl : l.length ≤ 1000) : ∀ (k i : Nat), i ≤ l.length → l.length < k + i → letterbaglaw33_Same.l0 k l l (i : Int) = some true
  | 0, i, h1, h2 => by omega
  | k + 1, i, h1, h2 => by
    simp only [letterbaglaw33_Same.l0]
    by_cases hi : i < l.length
    · rw [if_pos (by omega), if_pos (by omega), if_pos (by omega), if_neg (by simp), w64 (by omega) (by omega)]
      exact same_l l hl k (i + 1) (by omega) (by omega)
    · rw [if_neg (by omega)]
theorem same_f (l : List S45) (hl : l.length ≤ 1000) (k : Nat) (hk : l.length < k) : letterbaglaw33_Same.f k l l = some true := by
  unfold letterbaglaw33_Same.f
  rw [if_pos rfl]
  exact same_l l hl k 0 (Nat.zero_le _) (by omega)
/-- A way has no more stops than the network has plants. -/
theorem wayV_len {N : Net.Nw} (hv : N.Valid) {p q t : Int} (hp : p ∈ N.plants) : (wayV N p q t).1.length ≤ N.plants.length := by
  unfold wayV
  cases he : N.early p t q with
  | none => simp
  | some e =>
    obtain ⟨_, h1, h2⟩ := hv.best hp he
    simp [h1, h2]
end Go.Proofs.Ytdpadeklociinaa.PA
