import Derived.Test.YtdpadeklociinaaPAx0
import Derived.Test.YtdpadeklociinaaNAll
set_option linter.unusedVariables false
namespace Go.Proofs.Ytdpadeklociinaa.PA
open Go.RowKit Go.Proofs.YtdpadeklociinaaW.PrintWords Go.Proofs.YtdpadeklociinaaW.PrintLast Go.Proofs.YtdpadeklociinaaW.PrintMore Go.Proofs.Ytdpadeklociinaa

def network_Right.f (a0 a1 a2 a3 a4 a5 a6 a7 : Int) : Option Bool :=
  if 0 ≤ a7 ∧ a7 ≤ 255 then some (Net.Leg.right ⟨a0, a1, a2, a3, a4, a5, a6, a7⟩) else none

/-- The first k fields are within their limits. -/
def Passed (a0 a1 a2 a3 a4 a5 a6 a7 : Int) (k : Nat) : Prop :=
  (0 < k → 1 ≤ a0 ∧ a0 ≤ 999999) ∧ (1 < k → 1 ≤ a1 ∧ a1 ≤ 999999) ∧ (2 < k → 1 ≤ a2 ∧ a2 ≤ 999999) ∧ (3 < k → 0 ≤ a3 ∧ a3 ≤ 1439) ∧ (4 < k → 1 ≤ a4 ∧ a4 ≤ 20160) ∧
  (5 < k → 0 ≤ a5 ∧ a5 ≤ 10080) ∧ (6 < k → 0 ≤ a6 ∧ a6 ≤ 1000000000) ∧ (7 < k → 1 ≤ a7 ∧ a7 ≤ 127)

theorem right_true {a0 a1 a2 a3 a4 a5 a6 a7 : Int} {r : Bool} (h : some (Net.Leg.right ⟨a0, a1, a2, a3, a4, a5, a6, a7⟩) = some r) (hp : Passed a0 a1 a2 a3 a4 a5 a6 a7 8) : (a1 != a2) = r := by
  injection h with h
  subst h
  obtain ⟨h0, h1, h2, h3, h4, h5, h6, h7⟩ := hp
  have h0 := h0 (by omega); have h1 := h1 (by omega); have h2 := h2 (by omega); have h3 := h3 (by omega); have h4 := h4 (by omega); have h5 := h5 (by omega); have h6 := h6 (by omega); have h7 := h7 (by omega)
  rw [Bool.eq_iff_iff, Net.Leg.right_iff]
  simp only [bne_iff_ne, ne_eq]
  omega
theorem right_false {a0 a1 a2 a3 a4 a5 a6 a7 : Int} {r : Bool} (h : some (Net.Leg.right ⟨a0, a1, a2, a3, a4, a5, a6, a7⟩) = some r) (hn : ¬ Passed a0 a1 a2 a3 a4 a5 a6 a7 8) : r = false := by
  injection h with h
  subst h
  cases hr : Net.Leg.right ⟨a0, a1, a2, a3, a4, a5, a6, a7⟩ with
  | false => rfl
  | true =>
    exfalso
    apply hn
    have := (Net.Leg.right_iff _).1 hr
    dsimp only at this
    unfold Passed
    refine ⟨fun _ => ?_, fun _ => ?_, fun _ => ?_, fun _ => ?_, fun _ => ?_, fun _ => ?_, fun _ => ?_, fun _ => ?_⟩ <;> omega
theorem ret_bool {a b : Bool} (h : a = b) : Ending.returned (.bool a) = .returned (.bool b) := by rw [h]

set_option maxHeartbeats 4000000 in
set_option maxRecDepth 100000 in
theorem network_Right.calls (a0_0 : Int) (a0_1 : Int) (a0_2 : Int) (a0_3 : Int) (a0_4 : Int) (a0_5 : Int) (a0_6 : Int) (a0_7 : Int) (r : Bool) (w : World) (h : network_Right.f a0_0 a0_1 a0_2 a0_3 a0_4 a0_5 a0_6 a0_7 = some r) :
    Calls Try.prog 85 #[.agg #[.int .i64 a0_0, .int .i64 a0_1, .int .i64 a0_2, .int .i64 a0_3, .int .i64 a0_4, .int .i64 a0_5, .int .i64 a0_6, .int .u8 a0_7]] w fun e w' => e = .returned (.bool r) ∧ Below w.heap.size w w' := by
  unfold network_Right.f at h
  split at h
  · rename_i hb
    obtain ⟨hb0, hb1⟩ := hb
    have H := Aside0.mk h
    clear h
    have i0 : ∀ w, (Instr.index 163 (.agg #[.int .i64 a0_0, .int .i64 1, .int .i64 999999, .int .i64 a0_1, .int .i64 1, .int .i64 999999, .int .i64 a0_2, .int .i64 1, .int .i64 999999, .int .i64 a0_3, .int .i64 0, .int .i64 1439, .int .i64 a0_4, .int .i64 1, .int .i64 20160, .int .i64 a0_5, .int .i64 0, .int .i64 10080, .int .i64 a0_6, .int .i64 0, .int .i64 1000000000, .int .i64 a0_7, .int .i64 1, .int .i64 127]) (.int .i64 0)).run Try.prog w = .ok (.agg #[.int .i64 a0_0, .int .i64 1, .int .i64 999999]) w := fun _ => by kernel_rfl
    have i1 : ∀ w, (Instr.index 163 (.agg #[.int .i64 a0_0, .int .i64 1, .int .i64 999999, .int .i64 a0_1, .int .i64 1, .int .i64 999999, .int .i64 a0_2, .int .i64 1, .int .i64 999999, .int .i64 a0_3, .int .i64 0, .int .i64 1439, .int .i64 a0_4, .int .i64 1, .int .i64 20160, .int .i64 a0_5, .int .i64 0, .int .i64 10080, .int .i64 a0_6, .int .i64 0, .int .i64 1000000000, .int .i64 a0_7, .int .i64 1, .int .i64 127]) (.int .i64 1)).run Try.prog w = .ok (.agg #[.int .i64 a0_1, .int .i64 1, .int .i64 999999]) w := fun _ => by kernel_rfl
    have i2 : ∀ w, (Instr.index 163 (.agg #[.int .i64 a0_0, .int .i64 1, .int .i64 999999, .int .i64 a0_1, .int .i64 1, .int .i64 999999, .int .i64 a0_2, .int .i64 1, .int .i64 999999, .int .i64 a0_3, .int .i64 0, .int .i64 1439, .int .i64 a0_4, .int .i64 1, .int .i64 20160, .int .i64 a0_5, .int .i64 0, .int .i64 10080, .int .i64 a0_6, .int .i64 0, .int .i64 1000000000, .int .i64 a0_7, .int .i64 1, .int .i64 127]) (.int .i64 2)).run Try.prog w = .ok (.agg #[.int .i64 a0_2, .int .i64 1, .int .i64 999999]) w := fun _ => by kernel_rfl
    have i3 : ∀ w, (Instr.index 163 (.agg #[.int .i64 a0_0, .int .i64 1, .int .i64 999999, .int .i64 a0_1, .int .i64 1, .int .i64 999999, .int .i64 a0_2, .int .i64 1, .int .i64 999999, .int .i64 a0_3, .int .i64 0, .int .i64 1439, .int .i64 a0_4, .int .i64 1, .int .i64 20160, .int .i64 a0_5, .int .i64 0, .int .i64 10080, .int .i64 a0_6, .int .i64 0, .int .i64 1000000000, .int .i64 a0_7, .int .i64 1, .int .i64 127]) (.int .i64 3)).run Try.prog w = .ok (.agg #[.int .i64 a0_3, .int .i64 0, .int .i64 1439]) w := fun _ => by kernel_rfl
    have i4 : ∀ w, (Instr.index 163 (.agg #[.int .i64 a0_0, .int .i64 1, .int .i64 999999, .int .i64 a0_1, .int .i64 1, .int .i64 999999, .int .i64 a0_2, .int .i64 1, .int .i64 999999, .int .i64 a0_3, .int .i64 0, .int .i64 1439, .int .i64 a0_4, .int .i64 1, .int .i64 20160, .int .i64 a0_5, .int .i64 0, .int .i64 10080, .int .i64 a0_6, .int .i64 0, .int .i64 1000000000, .int .i64 a0_7, .int .i64 1, .int .i64 127]) (.int .i64 4)).run Try.prog w = .ok (.agg #[.int .i64 a0_4, .int .i64 1, .int .i64 20160]) w := fun _ => by kernel_rfl
    have i5 : ∀ w, (Instr.index 163 (.agg #[.int .i64 a0_0, .int .i64 1, .int .i64 999999, .int .i64 a0_1, .int .i64 1, .int .i64 999999, .int .i64 a0_2, .int .i64 1, .int .i64 999999, .int .i64 a0_3, .int .i64 0, .int .i64 1439, .int .i64 a0_4, .int .i64 1, .int .i64 20160, .int .i64 a0_5, .int .i64 0, .int .i64 10080, .int .i64 a0_6, .int .i64 0, .int .i64 1000000000, .int .i64 a0_7, .int .i64 1, .int .i64 127]) (.int .i64 5)).run Try.prog w = .ok (.agg #[.int .i64 a0_5, .int .i64 0, .int .i64 10080]) w := fun _ => by kernel_rfl
    have i6 : ∀ w, (Instr.index 163 (.agg #[.int .i64 a0_0, .int .i64 1, .int .i64 999999, .int .i64 a0_1, .int .i64 1, .int .i64 999999, .int .i64 a0_2, .int .i64 1, .int .i64 999999, .int .i64 a0_3, .int .i64 0, .int .i64 1439, .int .i64 a0_4, .int .i64 1, .int .i64 20160, .int .i64 a0_5, .int .i64 0, .int .i64 10080, .int .i64 a0_6, .int .i64 0, .int .i64 1000000000, .int .i64 a0_7, .int .i64 1, .int .i64 127]) (.int .i64 6)).run Try.prog w = .ok (.agg #[.int .i64 a0_6, .int .i64 0, .int .i64 1000000000]) w := fun _ => by kernel_rfl
    have i7 : ∀ w, (Instr.index 163 (.agg #[.int .i64 a0_0, .int .i64 1, .int .i64 999999, .int .i64 a0_1, .int .i64 1, .int .i64 999999, .int .i64 a0_2, .int .i64 1, .int .i64 999999, .int .i64 a0_3, .int .i64 0, .int .i64 1439, .int .i64 a0_4, .int .i64 1, .int .i64 20160, .int .i64 a0_5, .int .i64 0, .int .i64 10080, .int .i64 a0_6, .int .i64 0, .int .i64 1000000000, .int .i64 a0_7, .int .i64 1, .int .i64 127]) (.int .i64 7)).run Try.prog w = .ok (.agg #[.int .i64 a0_7, .int .i64 1, .int .i64 127]) w := fun _ => by kernel_rfl
    go_enter Try.func85, Try.ntmps85
    go_wp2
    go_loopw [31] (fun i wr => ∃ k : Nat, k ≤ 8 ∧ i = .int .i64 k ∧ Aside0 (Passed a0_0 a0_1 a0_2 a0_3 a0_4 a0_5 a0_6 a0_7 k) ∧ wr.heap[w.heap.size]? = some (.cells #[.int .i64 a0_0, .int .i64 a0_1, .int .i64 a0_2, .int .i64 a0_3, .int .i64 a0_4, .int .i64 a0_5, .int .i64 a0_6, .int .u8 a0_7] 23 (0, 0)) ∧ Below w.heap.size w wr) (fun i _ => 8 - (intOf i).toNat)
    case atStart => exact ⟨0, by omega, rfl, ⟨by unfold Passed; simp⟩, by simpa using heap_alloc_new w _, (Below.refl _ _).alloc (Nat.le_refl _) _⟩
    case round =>
      obtain ⟨k, hk, rfl, HP, hblk, hbel⟩ := hrel
      have HB := Aside0.mk hbel
      have HK := Aside0.mk hblk
      clear hbel hblk
      have hcase : k = 0 ∨ k = 1 ∨ k = 2 ∨ k = 3 ∨ k = 4 ∨ k = 5 ∨ k = 6 ∨ k = 7 ∨ k = 8 := by omega
      rcases hcase with rfl | rfl | rfl | rfl | rfl | rfl | rfl | rfl | rfl
      all_goals have hc1 : wr.cell? ⟨w.heap.size, 1, none⟩ = some (.int .i64 a0_1) := (blk_cell HK.out 1).trans rfl
      all_goals have hc2 : wr.cell? ⟨w.heap.size, 2, none⟩ = some (.int .i64 a0_2) := (blk_cell HK.out 2).trans rfl
      all_goals go_wp2
      all_goals first
        | (go_roundw; (case rel => exact ⟨1, by omega, rfl, ⟨by have hp := HP.out; unfold Passed at hp ⊢; omega⟩, blk_alloc HK.out _, HB.out.alloc HB.out.size _⟩); (case measure => simp [intOf]); done)
        | (go_roundw; (case rel => exact ⟨2, by omega, rfl, ⟨by have hp := HP.out; unfold Passed at hp ⊢; omega⟩, blk_alloc HK.out _, HB.out.alloc HB.out.size _⟩); (case measure => simp [intOf]); done)
        | (go_roundw; (case rel => exact ⟨3, by omega, rfl, ⟨by have hp := HP.out; unfold Passed at hp ⊢; omega⟩, blk_alloc HK.out _, HB.out.alloc HB.out.size _⟩); (case measure => simp [intOf]); done)
        | (go_roundw; (case rel => exact ⟨4, by omega, rfl, ⟨by have hp := HP.out; unfold Passed at hp ⊢; omega⟩, blk_alloc HK.out _, HB.out.alloc HB.out.size _⟩); (case measure => simp [intOf]); done)
        | (go_roundw; (case rel => exact ⟨5, by omega, rfl, ⟨by have hp := HP.out; unfold Passed at hp ⊢; omega⟩, blk_alloc HK.out _, HB.out.alloc HB.out.size _⟩); (case measure => simp [intOf]); done)
        | (go_roundw; (case rel => exact ⟨6, by omega, rfl, ⟨by have hp := HP.out; unfold Passed at hp ⊢; omega⟩, blk_alloc HK.out _, HB.out.alloc HB.out.size _⟩); (case measure => simp [intOf]); done)
        | (go_roundw; (case rel => exact ⟨7, by omega, rfl, ⟨by have hp := HP.out; unfold Passed at hp ⊢; omega⟩, blk_alloc HK.out _, HB.out.alloc HB.out.size _⟩); (case measure => simp [intOf]); done)
        | (go_roundw; (case rel => exact ⟨8, by omega, rfl, ⟨by have hp := HP.out; unfold Passed at hp ⊢; omega⟩, blk_alloc HK.out _, HB.out.alloc HB.out.size _⟩); (case measure => simp [intOf]); done)
        | (go_ret; exact ⟨ret_bool (right_true H.out HP.out), HB.out⟩)
        | (go_ret; exact ⟨ret_bool (right_false H.out (by intro hp; unfold Passed at hp; omega)).symm, HB.out.alloc HB.out.size _⟩)
  · cases h
end Go.Proofs.Ytdpadeklociinaa.PA
