import Derived.Test.YtdpadeklociinaaHFrom
import Derived.Test.YtdpadeklociinaaPAx4
set_option linter.unusedVariables false
namespace Go.Proofs.Ytdpadeklociinaa.PA
open Go.RowKit Go.Maps Go.Proofs.YtdpadeklociinaaW.PrintWords Go.Proofs.YtdpadeklociinaaW.PrintLast Go.Proofs.YtdpadeklociinaaW.PrintMore Go.Proofs.Ytdpadeklociinaa

theorem onDay_of_fk (k : Nat) (a0 a1 a2 a3 a4 a5 a6 a7 day : Int) (h0 : 0 ≤ a7) (h1 : a7 ≤ 255) : network_On.f (k + 1) a0 a1 a2 a3 a4 a5 a6 a7 day =
    some (match Net.onDay ⟨a0, a1, a2, a3, a4, a5, a6, a7⟩ day with | some d => (d, d + a4, true) | none => (0, 0, false)) := by
  induction k with
  | zero => exact onDay_of_f _ _ _ _ _ _ _ _ _ h0 h1
  | succ k ih => exact network_On.mono _ _ _ _ _ _ _ _ _ (k + 1) _ ih
def depO (a4 : Int) : Option Int → Int × Int × Bool
  | some d => (d, d + a4, true)
  | none => (0, 0, false)
theorem last_l0 (a0 a1 a2 a3 a4 a5 a6 a7 latest : Int) (h0 : 0 ≤ a7) (h1 : a7 ≤ 255) (hd : 0 ≤ a3 ∧ a3 ≤ 1439) : ∀ (n k : Nat), n ≤ 730485 → 2 * n + 2 ≤ k →
    network_Last.l0 k latest ((n : Int) - 1) a0 a1 a2 a3 a4 a5 a6 a7 = some (depO a4 (Net.lastFrom ⟨a0, a1, a2, a3, a4, a5, a6, a7⟩ latest n))
  | 0, k, hn, hk => by
    obtain ⟨k, rfl⟩ : ∃ k', k = k' + 1 := ⟨k - 1, by omega⟩
    rw [network_Last.l0, if_neg (by omega)]
    rfl
  | n + 1, k, hn, hk => by
    obtain ⟨k, rfl⟩ : ∃ k', k = k' + 3 := ⟨k - 3, by omega⟩
    have ih := last_l0 a0 a1 a2 a3 a4 a5 a6 a7 latest h0 h1 hd n (k + 1) (by omega) (by omega)
    have e1 : ((n + 1 : Nat) : Int) - 1 = (n : Int) := by omega
    rw [e1, network_Last.l0, if_pos (by omega), onDay_of_fk _ _ _ _ _ _ _ _ _ _ h0 h1, Option.bind_some, Net.lastFrom]
    have w1 : wrap64 (1440 * (n : Int)) = 1440 * n := by unfold wrap64; omega
    have w2 : wrap64 (1440 * (n : Int) + a3) = 1440 * n + a3 := by unfold wrap64; omega
    have w3 : wrap64 ((n : Int) - 1) = n - 1 := by unfold wrap64; omega
    have hj : ∀ d1 d2, network_Last.j2 (k + 2) latest n false a0 a1 a2 a3 a4 a5 a6 a7 d1 d2 = some (depO a4 (if 1440 * (n : Int) + a3 < a5 then none else Net.lastFrom ⟨a0, a1, a2, a3, a4, a5, a6, a7⟩ latest n)) := by
      intro d1 d2
      rw [network_Last.j2, if_neg (by simp), w1, w2, w3]
      by_cases hc : 1440 * (n : Int) + a3 < a5
      · rw [if_pos hc, if_pos hc]; rfl
      · rw [if_neg hc, if_neg hc, ih]
    cases ho : Net.onDay ⟨a0, a1, a2, a3, a4, a5, a6, a7⟩ (n : Int) with
    | none =>
      dsimp only
      rw [if_neg (by simp), hj]
    | some d =>
      dsimp only
      rw [if_pos rfl]
      by_cases hl : d ≤ latest
      · rw [decide_eq_true hl, network_Last.j2, if_pos rfl, if_pos hl]; rfl
      · rw [decide_eq_false hl, hj, if_neg hl]
theorem mn_eq (a b : Int) : mn a b = min a b := by unfold mn; split <;> omega
theorem last_of_f (a0 a1 a2 a3 a4 a5 a6 a7 t : Int) (h0 : 0 ≤ a7) (h1 : a7 ≤ 255) : network_Last.f 1460980 a0 a1 a2 a3 a4 a5 a6 a7 t = some (depO a4 (Net.last ⟨a0, a1, a2, a3, a4, a5, a6, a7⟩ t)) := by
  unfold network_Last.f network_Right.f Net.last
  rw [if_pos ⟨h0, h1⟩, Option.bind_some]
  cases hr : Net.Leg.right ⟨a0, a1, a2, a3, a4, a5, a6, a7⟩ with
  | false =>
    rw [if_neg (by simp), network_Last.j0, if_pos rfl]
    rfl
  | true =>
    have hR := (Net.Leg.right_iff _).1 hr
    dsimp only at hR
    rw [if_pos rfl, network_Last.j0]
    by_cases ht : t < 0
    · rw [decide_eq_true ht, if_pos rfl, if_neg (by simp; omega)]
      rfl
    · rw [decide_eq_false ht, if_neg (by simp), if_pos (by simp; omega)]
      have hn : network_near.f t = some (Net.near t) := by
        unfold network_near.f Net.near
        rw [mn_eq]
        congr 1
        unfold mx
        split <;> omega
      rw [hn, Option.bind_some]
      dsimp only
      have hb : 0 ≤ Net.near t ∧ Net.near t ≤ 1051899839 := by unfold Net.near; omega
      have w1 : wrap64 (Net.near t - a4) = Net.near t - a4 := by unfold wrap64; omega
      have ht2 := Net.tdiv_1440 (Net.near t - a4)
      obtain ⟨q, hq⟩ : ∃ q, q = (Net.near t - a4).tdiv 1440 := ⟨_, rfl⟩
      rw [w1, mn_eq, ← hq]
      rw [← hq] at ht2
      have hqb : -15 ≤ q ∧ q ≤ 1000000 := by omega
      have w2 : wrap64 q = q := by unfold wrap64; omega
      rw [w2]
      by_cases hp : 0 ≤ q
      · have := last_l0 a0 a1 a2 a3 a4 a5 a6 a7 (Net.near t - a4) h0 h1 (by omega) (min q 730484 + 1).toNat 1460979 (by omega) (by omega)
        rw [show (((min q 730484 + 1).toNat : Nat) : Int) - 1 = min q 730484 by omega] at this
        exact this
      · have e0 : (min q 730484 + 1).toNat = 0 := by omega
        rw [e0]
        rw [network_Last.l0, if_neg (by omega)]
        rfl
end Go.Proofs.Ytdpadeklociinaa.PA
