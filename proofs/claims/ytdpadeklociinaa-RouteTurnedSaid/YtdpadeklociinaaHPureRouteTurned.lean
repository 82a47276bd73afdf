import Derived.Test.YtdpadeklociinaaPAx11
import Derived.Test.YtdpadeklociinaaHPureBase
set_option linter.unusedVariables false
set_option linter.unusedSimpArgs false
namespace Go.Proofs.Ytdpadeklociinaa.PA
open Go.RowKit Go.Maps Go.Proofs.YtdpadeklociinaaW.PrintWords Go.Proofs.YtdpadeklociinaaW.PrintLast Go.Proofs.YtdpadeklociinaaW.PrintMore Go.Proofs.Ytdpadeklociinaa
theorem take_snoc {α : Type} (l : List α) (j : Nat) (h : j < l.length) : (l.take (j + 1)).reverse = l[j] :: (l.take j).reverse := by
  rw [List.take_succ_eq_append_getElem h, List.reverse_append]; rfl
theorem turned_l0 (a1 a2 a3 : Int) (l0 : List Int) (l1 : List S23) (hl : l0.length ≤ 9) : ∀ (j : Nat) (acc : List Int) (k : Nat), j ≤ l0.length → acc.length ≤ 9 - j →
    letterbaglaw33_RouteTurned.l0 (j + 1 + k) a1 a2 a3 ((j : Int) - 1) l0 l1 acc = letterbaglaw33_RouteTurned.l1 k a1 a2 a3 (wrap64 ((l1.length : Int) - 1)) l0 l1 (acc ++ (l0.take j).reverse) []
  | 0, acc, k, _, _ => by
    rw [show 0 + 1 + k = k + 1 by omega]
    simp only [letterbaglaw33_RouteTurned.l0]
    rw [if_neg (by omega)]
    simp
  | j + 1, acc, k, hj, ha => by
    rw [show j + 1 + 1 + k = (j + 1 + k) + 1 by omega]
    simp only [letterbaglaw33_RouteTurned.l0]
    rw [show ((j + 1 : Nat) : Int) - 1 = (j : Int) by omega, if_pos (by omega), if_pos (by omega), if_pos (by omega), if_pos (by omega), w64 (by omega) (by omega), rd_get (by omega), turned_l0 a1 a2 a3 l0 l1 hl j _ k (by omega) (by simp; omega), take_snoc l0 j (by omega)]
    simp
theorem turned_l1 (a1 a2 a3 : Int) (l0 : List Int) (l1 : List S23) (m0 : List Int) (hl : l1.length ≤ 16) : ∀ (j : Nat) (acc : List S23) (k : Nat), j ≤ l1.length → acc.length ≤ 16 - j →
    letterbaglaw33_RouteTurned.l1 (j + 1 + k) a1 a2 a3 ((j : Int) - 1) l0 l1 m0 acc = letterbaglaw33_RouteTurned.l1 (k + 1) a1 a2 a3 (-1) l0 l1 m0 (acc ++ (l1.take j).reverse)
  | 0, acc, k, _, _ => by
    rw [show 0 + 1 + k = k + 1 by omega]
    simp
  | j + 1, acc, k, hj, ha => by
    rw [show j + 1 + 1 + k = (j + 1 + k) + 1 by omega]
    rw [letterbaglaw33_RouteTurned.l1]
    have hr : rd_T23 l1 (j : Int) = l1[j] := by
      unfold rd_T23
      rw [Int.toNat_natCast, List.getD_eq_getElem?_getD, List.getElem?_eq_getElem (by omega)]
      rfl
    rw [show ((j + 1 : Nat) : Int) - 1 = (j : Int) by omega, if_pos (by omega), if_pos (by omega), if_pos (by omega), if_pos (by omega), w64 (by omega) (by omega), hr, turned_l1 a1 a2 a3 l0 l1 m0 hl j _ k (by omega) (by simp; omega), take_snoc l1 j (by omega)]
    simp
theorem turned_l2 (x y : List Int) (hl : x.length ≤ 9) (hy : y.length = x.length) : ∀ (j i : Nat) (k : Nat), i + j = x.length → letterbaglaw33_RouteTurned.l2 (j + 1 + k) x x.reverse y y.reverse (i : Int) = some true
  | 0, i, k, h => by
    rw [show 0 + 1 + k = k + 1 by omega]
    simp only [letterbaglaw33_RouteTurned.l2]
    rw [if_neg (by omega)]
  | j + 1, i, k, h => by
    rw [show j + 1 + 1 + k = (j + 1 + k) + 1 by omega]
    simp only [letterbaglaw33_RouteTurned.l2]
    have e1 : wrap64 (wrap64 ((x.length : Int) - 1) - (i : Int)) = ((x.length - 1 - i : Nat) : Int) := by rw [w64 (n := (x.length : Int) - 1) (by omega) (by omega), w64 (by omega) (by omega)]; omega
    have r1 : rd x.reverse ((x.length - 1 - i : Nat) : Int) = rd x (i : Int) := by
      rw [rd_get (by simp; omega), rd_get (by omega), List.getElem_reverse]
      congr 1; omega
    have r2 : rd y.reverse ((x.length - 1 - i : Nat) : Int) = rd y (i : Int) := by
      rw [rd_get (by simp; omega), rd_get (by omega), List.getElem_reverse]
      congr 1; omega
    rw [e1, if_pos (by omega), if_pos (by omega), if_pos (by omega), if_pos (by simp; omega), if_pos r1.symm, if_pos (by omega), if_pos (by simp; omega), if_pos r2.symm, w64 (by omega) (by omega)]
    exact turned_l2 x y hl hy j (i + 1) k (by omega)
theorem routeTurned_pure (l0 : List Int) (l1 : List S23) (a1 a2 a3 : Int) (hI : netI l0 l1 = true) (h1 : I64B a1 = true) (h2 : I64B a2 = true) (h3 : I64B a3 = true) : ∃ k, letterbaglaw33_RouteTurned.f k l0 l1 a1 a2 a3 = some true := by
  refine ⟨10 + 200, ?_⟩
  unfold letterbaglaw33_RouteTurned.f
  rw [awake_at, Option.bind_some, if_pos rfl]
  rcases fits_f hI a1 a2 a3 200 with h | ⟨h, F⟩
  · rw [h]; rfl
  rw [h, Option.bind_some, if_pos rfl]
  have h9 := F.nine
  have h16 := F.legs
  have hv := F.valid
  -- the network turned round
  have hM := hv.turned (M := netOf l0.reverse l1.reverse) (by show (l1.reverse.map toLeg).Perm (l1.map toLeg); exact (List.reverse_perm l1).map toLeg) (List.reverse_perm l0)
  obtain ⟨hvM, _, hE, hL, hW⟩ := hM
  have hIM : netI l0.reverse l1.reverse = true := by
    unfold netI at hI ⊢
    rw [List.all_reverse, List.all_reverse]
    exact hI
  have i1 : a1 ∈ l0.reverse := List.mem_reverse.2 F.inA
  have i2 : a2 ∈ l0.reverse := List.mem_reverse.2 F.inB
  rw [w64 (by omega) (by omega), show 10 + 200 = l0.length + 1 + (209 - l0.length) by omega, turned_l0 a1 a2 a3 l0 l1 h9 l0.length [] _ (Nat.le_refl _) (by simp), List.take_length, List.nil_append,
    w64 (by omega) (by omega), show 209 - l0.length = l1.length + 1 + (208 - l0.length - l1.length) by omega, turned_l1 a1 a2 a3 l0 l1 l0.reverse h16 l1.length [] _ (Nat.le_refl _) (by simp), List.take_length, List.nil_append]
  rw [letterbaglaw33_RouteTurned.l1, if_neg (by omega), arrive_f hI hv F.inA F.t0 F.t1, arrive_f hIM hvM i1 F.t0 F.t1, leave_f hI hv F.inB F.t0 F.t1, leave_f hIM hvM i2 F.t0 F.t1, way_f hI hv F.inA F.inB F.t0 F.t1, way_f hIM hvM i1 i2 F.t0 F.t1]
  simp only [Option.bind_some]
  have ea : (netOf l0.reverse l1.reverse).arriveL a1 a3 = ((netOf l0 l1).arriveL a1 a3).reverse := by
    unfold Net.Nw.arriveL
    rw [hE, ← List.map_reverse]; rfl
  have el : (netOf l0.reverse l1.reverse).leaveL a2 a3 = ((netOf l0 l1).leaveL a2 a3).reverse := by
    unfold Net.Nw.leaveL
    rw [hL, ← List.map_reverse]; rfl
  have ew : wayV (netOf l0.reverse l1.reverse) a1 a2 a3 = wayV (netOf l0 l1) a1 a2 a3 := by
    unfold wayV
    rw [hE]
    simp only [hW]
  rw [ea, el, ew]
  have la : ((netOf l0 l1).arriveL a1 a3).length = l0.length := by unfold Net.Nw.arriveL; rw [List.length_map]; rfl
  have ll : ((netOf l0 l1).leaveL a2 a3).length = l0.length := by unfold Net.Nw.leaveL; rw [List.length_map]; rfl
  have lw : (wayV (netOf l0 l1) a1 a2 a3).1.length ≤ l0.length := wayV_len hv F.inA
  rw [if_pos (by rw [List.length_reverse]), if_pos (by rw [List.length_reverse]), if_pos rfl, same_f _ (by omega) _ (by omega), Option.bind_some]
  obtain ⟨q, hq⟩ : ∃ q, 208 - l0.length - l1.length = (l0.length + 1 + q) + 1 := ⟨206 - l0.length - l1.length - l0.length, by omega⟩
  rw [hq, letterbaglaw33_RouteTurned.j2, if_neg (by simp)]
  have := turned_l2 ((netOf l0 l1).arriveL a1 a3) ((netOf l0 l1).leaveL a2 a3) (by omega) (by omega) l0.length 0 q (by omega)
  exact this
end Go.Proofs.Ytdpadeklociinaa.PA
