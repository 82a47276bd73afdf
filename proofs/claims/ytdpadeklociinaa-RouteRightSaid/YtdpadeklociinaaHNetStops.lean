import Derived.Test.YtdpadeklociinaaHNet
set_option linter.unusedVariables false
set_option linter.unusedSimpArgs false
namespace Go.Proofs.Ytdpadeklociinaa.PA
open Go.ChangeShapes Go.WideShapes Go.ChangeAt Go.RowKit Go.Deep Go.Maps
open Go.Proofs.YtdpadeklociinaaW.PrintWords Go.Proofs.YtdpadeklociinaaW.PrintLast Go.Proofs.YtdpadeklociinaaW.PrintMore Go.Proofs.Ytdpadeklociinaa
/-! Stops among a law's arguments. -/
def stopI (x : S45) : Bool := I64B x.f0 && I64B x.f1 && I64B x.f2
section
variable {H : Type} {enc : TypeId × Value → H} {w : World} {base : Nat} {spare : Nat → Bool} {held : Bool}
set_option maxRecDepth 100000 in
theorem open_stops0 {fuel : Nat} {cs : List Value} {x : DataW H × List MemPlace} (h : DataW.trod enc Try.prog w base spare held fuel 41 cs = some x) :
    ∃ (A : Option Addr) (cap : Nat) (l : List S45), cs = [.slice A l.length cap] ∧ l.length ≤ cap ∧ cap ≤ maxLen ∧ Kd.C k45 w A l.length l ∧ l.all stopI = true := by
  have hC : Try.prog.cellsOf 45 = 3 := by kernel_rfl
  rcases open_slice Try.underlying41 h with ⟨rfl, _⟩ | ⟨a, len, cap, m, n, D, Pl, rfl, _, hl, hm, hmm, _, hi⟩
  · exact ⟨none, 0, [], rfl, Nat.le_refl _, Nat.zero_le _, ⟨rfl, by simp, fun h => by simp at h⟩, rfl⟩
  · have hle : len ≤ m := by rw [hmm]; split; exact hl; exact Nat.le_refl _
    have key : ∀ i, i < len → ∃ y : S45, stopI y = true ∧ ∀ j u, ([.int .i64 y.f0, .int .i64 y.f1, .int .i64 y.f2] : List Value)[j]? = some u → w.cell? (a.add (i * 3 + j)) = some u := by
      intro i hil
      obtain ⟨cs', hc, ht⟩ := hi i (by omega)
      rw [hC] at hc
      obtain ⟨ys, n', _, _, _, hyl, hf⟩ := DataW.trod_struct Try.underlying45 ht
      obtain ⟨_, hcl, hat⟩ := World.cells?_some hc
      have hys : ys.length = 3 := hyl
      match cs', hcl with
      | [c0, c1, c2], _ =>
        match ys, hys with
        | [y0, y1, y2], _ =>
          have g0 := hf 0 _ rfl
          have g1 := hf 1 _ rfl
          have g2 := hf 2 _ rfl
          obtain ⟨m0, e0, _, z0⟩ := DataW.trod_int Try.underlying3 g0
          obtain ⟨m1, e1, _, z1⟩ := DataW.trod_int Try.underlying3 g1
          obtain ⟨m2, e2, _, z2⟩ := DataW.trod_int Try.underlying3 g2
          have h3 : Try.prog.cellsOf 3 = 1 := by kernel_rfl
          have e0' : List.take (Try.prog.cellsOf 3) (List.drop 0 [c0, c1, c2]) = [.int .i64 m0] := e0
          rw [h3] at e0'
          have e1' : List.take (Try.prog.cellsOf 3) (List.drop 1 [c0, c1, c2]) = [.int .i64 m1] := e1
          rw [h3] at e1'
          have e2' : List.take (Try.prog.cellsOf 3) (List.drop 2 [c0, c1, c2]) = [.int .i64 m2] := e2
          rw [h3] at e2'
          obtain rfl : c0 = .int .i64 m0 := by have : [c0] = [Value.int .i64 m0] := e0'; injection this
          obtain rfl : c1 = .int .i64 m1 := by have : [c1] = [Value.int .i64 m1] := e1'; injection this
          obtain rfl : c2 = .int .i64 m2 := by have : [c2] = [Value.int .i64 m2] := e2'; injection this
          clear g0 g1 g2 e0 e1 e2 e0' e1' e2' hf
          refine ⟨⟨m0, m1, m2⟩, ?_, fun j u hu => ?_⟩
          · unfold stopI
            simp only [wf_i64 z0, wf_i64 z1, wf_i64 z2, Bool.and_self]
          · have hj3 : j < 3 := by have := (List.getElem?_eq_some_iff.1 hu).1; simpa using this
            have := hat j hj3
            rw [Go.Deep.add_add] at this
            rw [this, ← hu]
    obtain ⟨l, hll, hq⟩ := list_of len key
    subst hll
    refine ⟨some a, cap, l, rfl, hl, hm, ⟨rfl, by have := max_small; omega, fun _ => ⟨a, rfl, fun j p hj => ⟨_, rfl, k45_mk w p, (hq j p hj).2⟩⟩⟩, ?_⟩
    rw [List.all_eq_true]
    intro y hy
    obtain ⟨i, hi'⟩ := List.getElem?_of_mem hy
    exact (hq i y hi').1
set_option maxRecDepth 100000 in
theorem open_stops {r : Reach} {b0 : Nat} {v : Value} {d : DataW H} {p : List MemPlace} (hv : Value.okWide Try.prog w r b0 41 v) (h : DataW.Trod enc Try.prog w base spare held 41 v d p) :
    ∃ (A : Option Addr) (c : Nat) (l : List S45), v = .slice A l.length c ∧ l.length ≤ c ∧ Kd.C k45 w A l.length l ∧ l.all stopI = true := by
  obtain ⟨A0, n0, c0, rfl⟩ := okWide_slice Try.underlying41 hv
  obtain ⟨fuel, hf⟩ := h
  obtain ⟨A, c, l, e, h1, _, h2, h3⟩ := open_stops0 hf
  have e' : [Value.slice A0 n0 c0] = [Value.slice A l.length c] := e
  injection e' with e'
  exact ⟨A, c, l, e', h1, h2, h3⟩
end
end Go.Proofs.Ytdpadeklociinaa.PA
