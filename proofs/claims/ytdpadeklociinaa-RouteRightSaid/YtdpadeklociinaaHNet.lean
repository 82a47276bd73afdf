import Derived.Test.YtdpadeklociinaaHDefs
import Derived.Deep.Slices
import Derived.Deep.Fields
import Derived.ChangeSame
import Derived.WalkKit
import Derived.ProofKit
import Derived.OpenShut
import Derived.ShutString
import Derived.ChangeOld
import Derived.Below
import Derived.SizedLaws
set_option linter.unusedVariables false
set_option linter.unusedSimpArgs false
namespace Go.Proofs.Ytdpadeklociinaa.PA
open Go.ChangeShapes Go.WideShapes Go.ChangeAt Go.RowKit Go.Deep Go.Maps
open Go.Proofs.YtdpadeklociinaaW.PrintWords Go.Proofs.YtdpadeklociinaaW.PrintLast Go.Proofs.YtdpadeklociinaaW.PrintMore Go.Proofs.Ytdpadeklociinaa
/-! A network among a law's arguments: opened to its plants and its legs. -/
theorem list_of {α : Type} {Q : Nat → α → Prop} : ∀ n : Nat, (∀ i, i < n → ∃ y, Q i y) → ∃ l : List α, l.length = n ∧ ∀ i y, l[i]? = some y → Q i y
  | 0, _ => ⟨[], rfl, fun i y h => by simp at h⟩
  | n + 1, h => by
    obtain ⟨l, hl, hq⟩ := list_of n (fun i hi => h i (by omega))
    obtain ⟨y, hy⟩ := h n (by omega)
    refine ⟨l ++ [y], by simp [hl], fun i z hz => ?_⟩
    by_cases hi : i < l.length
    · rw [List.getElem?_append_left hi] at hz
      exact hq i z hz
    · rw [List.getElem?_append_right (by omega)] at hz
      have h0 : i - l.length = 0 := by
        rcases Nat.eq_zero_or_pos (i - l.length) with h | h
        · exact h
        · rw [List.getElem?_eq_none (by simp; omega)] at hz; cases hz
      rw [h0] at hz
      simp at hz
      subst hz
      rw [show i = n by omega]
      exact hy
theorem max_small : maxLen ≤ 9223372036854775807 := by decide
theorem wf_i64 {n : Int} (h : (Lit.int .i64 n).wf = true) : I64B n = true := by
  simp only [Lit.wf, IntKind.min, IntKind.max, IntKind.signed, IntKind.bits, Bool.and_eq_true, decide_eq_true_eq] at h
  unfold I64B
  simp only [Bool.and_eq_true, decide_eq_true_eq]
  constructor
  · have := h.1; simpa using this
  · have := h.2; simpa using this
theorem wf_u8 {n : Int} (h : (Lit.int .u8 n).wf = true) : 0 ≤ n ∧ n ≤ 255 := by
  simp only [Lit.wf, IntKind.min, IntKind.max, IntKind.signed, IntKind.bits, Bool.and_eq_true, decide_eq_true_eq] at h
  constructor
  · have := h.1; simpa using this
  · have := h.2; simpa using this
section
variable {H : Type} {enc : TypeId × Value → H} {w : World} {base : Nat} {spare : Nat → Bool} {held : Bool}
theorem open_plants {fuel : Nat} {cs : List Value} {x : DataW H × List MemPlace} (h : DataW.trod enc Try.prog w base spare held fuel 27 cs = some x) :
    ∃ (A : Option Addr) (cap : Nat) (l : List Int), cs = [.slice A l.length cap] ∧ l.length ≤ cap ∧ cap ≤ maxLen ∧ Kd.C (Kd.int .i64) w A l.length l ∧ l.all I64B = true := by
  rcases open_ints Try.underlying27 Try.underlying3 (by kernel_rfl) h with ⟨rfl, _⟩ | ⟨a, len, cap, zs, rfl, _, hl, hm, hz, _, hcell, hw⟩
  · exact ⟨none, 0, [], rfl, Nat.le_refl _, Nat.zero_le _, ⟨rfl, by simp, fun h => by simp at h⟩, rfl⟩
  · have hle : len ≤ zs.length := by rw [hz]; split; exact hl; exact Nat.le_refl _
    have htl : (zs.take len).length = len := by rw [List.length_take]; omega
    refine ⟨some a, cap, zs.take len, by rw [htl], by rw [htl]; exact hl, hm, ?_, ?_⟩
    · refine ⟨rfl, by rw [htl]; have := max_small; omega, fun _ => ⟨a, rfl, fun j p hj => ⟨[.int .i64 p], rfl, rfl, fun i u hu => ?_⟩⟩⟩
      match i, hu with
      | 0, hu =>
        simp at hu
        subst hu
        have hj1 : j < (zs.take len).length := (List.getElem?_eq_some_iff.1 hj).1
        have hj2 : zs[j]? = some p := by rw [List.getElem?_take, if_pos (by omega)] at hj; exact hj
        have := hcell j (by omega)
        rw [List.getD_eq_getElem?_getD, hj2] at this
        show w.cell? (a.add (j * 1 + 0)) = _
        rw [Nat.mul_one, Nat.add_zero]
        exact this
    · rw [List.all_eq_true]
      intro n hn
      exact wf_i64 (hw n (List.mem_of_mem_take hn))
set_option maxRecDepth 100000 in
theorem open_legs {fuel : Nat} {cs : List Value} {x : DataW H × List MemPlace} (h : DataW.trod enc Try.prog w base spare held fuel 25 cs = some x) :
    ∃ (A : Option Addr) (cap : Nat) (l : List S23), cs = [.slice A l.length cap] ∧ l.length ≤ cap ∧ cap ≤ maxLen ∧ Kd.C k23 w A l.length l ∧ l.all legI = true := by
  have hC : Try.prog.cellsOf 23 = 8 := by kernel_rfl
  have hone : oneCellFields Try.prog _ = true := (by kernel_rfl : oneCellFields Try.prog (match Try.prog.underlying 23 with | some (.struct fs) => fs | _ => #[]) = true)
  rcases open_slice Try.underlying25 h with ⟨rfl, _⟩ | ⟨a, len, cap, m, n, D, Pl, rfl, _, hl, hm, hmm, _, hi⟩
  · exact ⟨none, 0, [], rfl, Nat.le_refl _, Nat.zero_le _, ⟨rfl, by simp, fun h => by simp at h⟩, rfl⟩
  · have hle : len ≤ m := by rw [hmm]; split; exact hl; exact Nat.le_refl _
    have key : ∀ i, i < len → ∃ y : S23, legI y = true ∧ ∀ j u, ([.int .i64 y.f0, .int .i64 y.f1, .int .i64 y.f2, .int .i64 y.f3, .int .i64 y.f4, .int .i64 y.f5, .int .i64 y.f6, .int .u8 y.f7] : List Value)[j]? = some u → w.cell? (a.add (i * 8 + j)) = some u := by
      intro i hil
      obtain ⟨cs', hc, ht⟩ := hi i (by omega)
      rw [hC] at hc
      obtain ⟨ys, n', _, _, _, hyl, hf⟩ := DataW.trod_struct Try.underlying23 ht
      obtain ⟨_, hcl, hat⟩ := World.cells?_some hc
      have hys : ys.length = 8 := hyl
      match cs', hcl with
      | [c0, c1, c2, c3, c4, c5, c6, c7], _ =>
        match ys, hys with
        | [y0, y1, y2, y3, y4, y5, y6, y7], _ =>
          have g0 := hf 0 _ rfl
          have g1 := hf 1 _ rfl
          have g2 := hf 2 _ rfl
          have g3 := hf 3 _ rfl
          have g4 := hf 4 _ rfl
          have g5 := hf 5 _ rfl
          have g6 := hf 6 _ rfl
          have g7 := hf 7 _ rfl
          obtain ⟨m0, e0, _, z0⟩ := DataW.trod_int Try.underlying3 g0
          obtain ⟨m1, e1, _, z1⟩ := DataW.trod_int Try.underlying3 g1
          obtain ⟨m2, e2, _, z2⟩ := DataW.trod_int Try.underlying3 g2
          obtain ⟨m3, e3, _, z3⟩ := DataW.trod_int Try.underlying3 g3
          obtain ⟨m4, e4, _, z4⟩ := DataW.trod_int Try.underlying3 g4
          obtain ⟨m5, e5, _, z5⟩ := DataW.trod_int Try.underlying3 g5
          obtain ⟨m6, e6, _, z6⟩ := DataW.trod_int Try.underlying3 g6
          obtain ⟨m7, e7, _, z7⟩ := DataW.trod_int Try.underlying5 g7
          have h3 : Try.prog.cellsOf 3 = 1 := by kernel_rfl
          have h5 : Try.prog.cellsOf 5 = 1 := by kernel_rfl
          have e0' : List.take (Try.prog.cellsOf 3) (List.drop 0 [c0, c1, c2, c3, c4, c5, c6, c7]) = [.int .i64 m0] := e0
          rw [h3] at e0'
          have e1' : List.take (Try.prog.cellsOf 3) (List.drop 1 [c0, c1, c2, c3, c4, c5, c6, c7]) = [.int .i64 m1] := e1
          rw [h3] at e1'
          have e2' : List.take (Try.prog.cellsOf 3) (List.drop 2 [c0, c1, c2, c3, c4, c5, c6, c7]) = [.int .i64 m2] := e2
          rw [h3] at e2'
          have e3' : List.take (Try.prog.cellsOf 3) (List.drop 3 [c0, c1, c2, c3, c4, c5, c6, c7]) = [.int .i64 m3] := e3
          rw [h3] at e3'
          have e4' : List.take (Try.prog.cellsOf 3) (List.drop 4 [c0, c1, c2, c3, c4, c5, c6, c7]) = [.int .i64 m4] := e4
          rw [h3] at e4'
          have e5' : List.take (Try.prog.cellsOf 3) (List.drop 5 [c0, c1, c2, c3, c4, c5, c6, c7]) = [.int .i64 m5] := e5
          rw [h3] at e5'
          have e6' : List.take (Try.prog.cellsOf 3) (List.drop 6 [c0, c1, c2, c3, c4, c5, c6, c7]) = [.int .i64 m6] := e6
          rw [h3] at e6'
          have e7' : List.take (Try.prog.cellsOf 5) (List.drop 7 [c0, c1, c2, c3, c4, c5, c6, c7]) = [.int .u8 m7] := e7
          rw [h5] at e7'
          obtain rfl : c0 = .int .i64 m0 := by have : [c0] = [Value.int .i64 m0] := e0'; injection this
          obtain rfl : c1 = .int .i64 m1 := by have : [c1] = [Value.int .i64 m1] := e1'; injection this
          obtain rfl : c2 = .int .i64 m2 := by have : [c2] = [Value.int .i64 m2] := e2'; injection this
          obtain rfl : c3 = .int .i64 m3 := by have : [c3] = [Value.int .i64 m3] := e3'; injection this
          obtain rfl : c4 = .int .i64 m4 := by have : [c4] = [Value.int .i64 m4] := e4'; injection this
          obtain rfl : c5 = .int .i64 m5 := by have : [c5] = [Value.int .i64 m5] := e5'; injection this
          obtain rfl : c6 = .int .i64 m6 := by have : [c6] = [Value.int .i64 m6] := e6'; injection this
          obtain rfl : c7 = .int .u8 m7 := by have : [c7] = [Value.int .u8 m7] := e7'; injection this
          clear g0 g1 g2 g3 g4 g5 g6 g7 e0 e1 e2 e3 e4 e5 e6 e7 e0' e1' e2' e3' e4' e5' e6' e7' hf
          refine ⟨⟨m0, m1, m2, m3, m4, m5, m6, m7⟩, ?_, fun j u hu => ?_⟩
          · unfold legI
            obtain ⟨z8, z9⟩ := wf_u8 z7
            simp only [wf_i64 z0, wf_i64 z1, wf_i64 z2, wf_i64 z3, wf_i64 z4, wf_i64 z5, wf_i64 z6, decide_eq_true z8, decide_eq_true z9, Bool.and_self]
          · have hj8 : j < 8 := by have := (List.getElem?_eq_some_iff.1 hu).1; simpa using this
            have := hat j hj8
            rw [Go.Deep.add_add] at this
            rw [this, ← hu]
    obtain ⟨l, hll, hq⟩ := list_of len key
    subst hll
    refine ⟨some a, cap, l, rfl, hl, hm, ⟨rfl, by have := max_small; omega, fun _ => ⟨a, rfl, fun j p hj => ⟨_, rfl, k23_mk w p, (hq j p hj).2⟩⟩⟩, ?_⟩
    rw [List.all_eq_true]
    intro y hy
    obtain ⟨i, hi'⟩ := List.getElem?_of_mem hy
    exact (hq i y hi').1
set_option maxRecDepth 100000 in
theorem open_net {r : Reach} {b0 : Nat} {v : Value} {d : DataW H} {p : List MemPlace} (hv : Value.okWide Try.prog w r b0 29 v) (h : DataW.Trod enc Try.prog w base spare held 29 v d p) :
    ∃ (A0 : Option Addr) (c0 : Nat) (l0 : List Int) (A1 : Option Addr) (c1 : Nat) (l1 : List S23), v = .agg #[.slice A0 l0.length c0, .slice A1 l1.length c1] ∧ l0.length ≤ c0 ∧ l1.length ≤ c1 ∧
      Kd.C (Kd.int .i64) w A0 l0.length l0 ∧ Kd.C k23 w A1 l1.length l1 ∧ netI l0 l1 = true := by
  have hC : Try.prog.cellsOf 29 = 2 := by kernel_rfl
  have h27 : Try.prog.cellsOf 27 = 1 := by kernel_rfl
  have h25 : Try.prog.cellsOf 25 = 1 := by kernel_rfl
  obtain ⟨cs, rfl, hsz⟩ := okWide_struct Try.underlying29 hv
  obtain ⟨l⟩ := cs
  match l, hsz.trans hC with
  | [x0, x1], _ =>
    obtain ⟨fuel, hf⟩ := h
    obtain ⟨y0, y1, n, _, _, g0, g1⟩ := trod_struct2 Try.underlying29 hf
    have g0' : DataW.trod enc Try.prog w base spare held n 27 (List.take (Try.prog.cellsOf 27) (List.drop 0 [x0, x1])) = some y0 := g0
    have g1' : DataW.trod enc Try.prog w base spare held n 25 (List.take (Try.prog.cellsOf 25) (List.drop 1 [x0, x1])) = some y1 := g1
    rw [h27] at g0'
    rw [h25] at g1'
    obtain ⟨A0, c0, l0, e0, k0, _, k1, k2⟩ := open_plants g0'
    obtain ⟨A1, c1, l1, e1, j0, _, j1, j2⟩ := open_legs g1'
    obtain rfl : x0 = .slice A0 l0.length c0 := by have : [x0] = [Value.slice A0 l0.length c0] := e0; injection this
    obtain rfl : x1 = .slice A1 l1.length c1 := by have : [x1] = [Value.slice A1 l1.length c1] := e1; injection this
    exact ⟨A0, c0, l0, A1, c1, l1, rfl, k0, j0, k1, j1, by unfold netI; rw [k2, j2]; rfl⟩
end
end Go.Proofs.Ytdpadeklociinaa.PA
