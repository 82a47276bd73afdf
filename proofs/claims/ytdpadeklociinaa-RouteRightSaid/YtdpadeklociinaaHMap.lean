import Derived.Test.YtdpadeklociinaaPAx0
import Derived.Maps.Own
import Derived.Maps.OwnOps
import Derived.Maps.Views
set_option linter.unusedVariables false
namespace Go.Proofs.Ytdpadeklociinaa.PA
open Go.RowKit Go.Maps Go.Proofs.YtdpadeklociinaaW.PrintWords Go.Proofs.YtdpadeklociinaaW.PrintLast Go.Proofs.YtdpadeklociinaaW.PrintMore Go.Proofs.Ytdpadeklociinaa

theorem law3 : Keyed Try.prog 3 := int_keyed Try.underlying3
theorem zero3 (w : World) : (zeroValue 3).run Try.prog w = .ok (.int .i64 0) w := by kernel_rfl

def I64 (p : Int) : Prop := -9223372036854775808 ≤ p ∧ p ≤ 9223372036854775807
theorem I64.wf {p : Int} (h : I64 p) : (Lit.int .i64 p).wf = true := WalkArith.wf_i64 h

/-- Block b is a map[int]int of at most n entries, which tells m (0 where there is none). -/
def MapIs (w : World) (b n : Nat) (m : Int → Int) : Prop :=
  ∃ D : DataW Unit, w.ownsMap Try.prog 3 (plainElem Try.prog 3) b n D ∧ IsMap D ∧ ∀ p, D.atKey (.int .i64 p) (.lit (.int .i64 0)) = .lit (.int .i64 (m p))

theorem MapIs.made (w : World) : MapIs (w.alloc (.map #[] 0)) w.heap.size 0 (fun _ => 0) := ⟨_, World.ownsMap_made _ _ _ _, isMap_empty, fun _ => rfl⟩
theorem MapIs.lt {w : World} {b n : Nat} {m : Int → Int} (h : MapIs w b n m) : b < w.heap.size := h.choose_spec.1.lt
theorem MapIs.kept {w w' : World} {b n : Nat} {m : Int → Int} {row : Option Nat} (h : MapIs w b n m) (hg : w.grownBy w' row) (hne : some b ≠ row) : MapIs w' b n m :=
  let ⟨D, h1, h2, h3⟩ := h; ⟨D, h1.kept hg hne, h2, h3⟩
theorem MapIs.alloc {w : World} {b n : Nat} {m : Int → Int} (h : MapIs w b n m) (o : Obj) : MapIs (w.alloc o) b n m := h.kept (World.grownBy_alloc w o none) (by simp)
theorem MapIs.drewN {w : World} {b n : Nat} {m : Int → Int} (h : MapIs w b n m) (k : Nat) : MapIs (w.drewN k) b n m := h
theorem MapIs.below {w w' : World} {b n : Nat} {m : Int → Int} (h : MapIs w b n m) (hb : Below w.heap.size w w') : MapIs w' b n m := h.kept (grown_of_below hb none) (by simp)
theorem MapIs.congr {w : World} {b n : Nat} {m m' : Int → Int} (h : MapIs w b n m) (e : ∀ p, m p = m' p) : MapIs w b n m' := (funext e : m = m') ▸ h
theorem MapIs.more {w : World} {b n n' : Nat} {m : Int → Int} (h : MapIs w b n m) (hn : n ≤ n') : MapIs w b n' m := let ⟨D, h1, h2, h3⟩ := h; ⟨D, h1.mono hn, h2, h3⟩

section
variable {ops : Array Oper} {rest : List Oper} {o : Oper} {a : Act} {Q : Exit → Act → World → Prop} {w : World}
/-- m[p], a number that is known. -/
theorem map_lookup (hg : o.guard = none) (x y : Operand) (hop : o.op = Op.lookup 53 x y false) (b n : Nat) (m : Int → Int) (hx : a.eval x = .map (some b)) (h : MapIs w b n m) (p c : Int) (hy : a.eval y = .int .i64 p) (hp : I64 p) (hc : m p = c)
    (hK : wpList Try.prog ops Q rest (a.put o.dst (.int .i64 c)) w) : wpList Try.prog ops Q (o :: rest) a w := by
  obtain ⟨D, h1, h2, h3⟩ := h
  refine wpList_lookup_own_int (H := Unit) w hg x y 53 hop 3 3 .i64 law3 Try.underlying53 Try.underlying3 (zero3 _) b n D hx h1 _ _ hy (keyOf_int_mk Try.underlying3 hp.wf) fun c' hat _ => ?_
  rw [h3, hc] at hat
  injection hat with hat
  injection hat with _ hat
  subst hat
  exact hK
theorem map_store (hg : o.guard = none) (x y v : Operand) (hop : o.op = Op.mapUpdate 53 x y v) (b n : Nat) (m : Int → Int) (hx : a.eval x = .map (some b)) (h : MapIs w b n m) (hn : n < 4000000000) (p c : Int) (hy : a.eval y = .int .i64 p) (hp : I64 p) (hv : a.eval v = .int .i64 c) (hc : I64 c)
    (hK : ∀ w', MapIs w' b (n + 1) (fun q => if q = p then c else m q) → w.grownBy w' (some b) → wpList Try.prog ops Q rest (a.put o.dst undef) w') : wpList Try.prog ops Q (o :: rest) a w := by
  obtain ⟨D, h1, h2, h3⟩ := h
  refine wpList_mapUpdate_own (H := Unit) w hg x y v 53 hop 3 3 law3 Try.underlying53 _ b n D hx h1 (by unfold maxLen; omega) _ _ _ hy hv (keyOf_int_mk Try.underlying3 hp.wf) _ _ (plainElem_int Try.underlying3 hc.wf) fun w' ho hg' => ?_
  refine hK w' ⟨_, ho, h2.put _ _, fun q => ?_⟩ hg'
  show _ = DataW.lit (Lit.int IntKind.i64 (if q = p then c else m q))
  by_cases e : q = p
  · subst e
    rw [if_pos rfl]
    exact atKey_put_same h2 (by trivial) _ _
  · rw [if_neg e, ← h3 q]
    exact atKey_put_other (fun e' => e (by injection e')) _ _
end
end Go.Proofs.Ytdpadeklociinaa.PA
