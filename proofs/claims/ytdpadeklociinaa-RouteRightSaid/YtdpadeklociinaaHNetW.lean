import Derived.Test.YtdpadeklociinaaHPureBase
set_option linter.unusedVariables false
set_option linter.unusedSimpArgs false
namespace Go.Proofs.Ytdpadeklociinaa.PA
open Go.RowKit Go.Maps Go.Proofs.YtdpadeklociinaaW.PrintWords Go.Proofs.YtdpadeklociinaaW.PrintLast Go.Proofs.YtdpadeklociinaaW.PrintMore Go.Proofs.Ytdpadeklociinaa
/-- What stands beside the law's walk: the boxed network. -/
structure NetW (A0 : Option Addr) (c0 : Nat) (l0 : List Int) (A1 : Option Addr) (c1 : Nat) (l1 : List S23) (w W : World) : Prop where
  blk : W.heap[w.heap.size]? = some (.cells #[.slice A0 l0.length c0, .slice A1 l1.length c1] 29 (0, 0))
  below : Below w.heap.size w W
theorem NetW.next {A0 : Option Addr} {c0 : Nat} {l0 : List Int} {A1 : Option Addr} {c1 : Nat} {l1 : List S23} {w W W' : World} (h : NetW A0 c0 l0 A1 c1 l1 w W) (hb : Below W.heap.size W W') : NetW A0 c0 l0 A1 c1 l1 w W' where
  blk := blk_below h.blk hb
  below := below_then h.below h.below.size hb
theorem NetW.new (A0 : Option Addr) (c0 : Nat) (l0 : List Int) (A1 : Option Addr) (c1 : Nat) (l1 : List S23) (w : World) : NetW A0 c0 l0 A1 c1 l1 w (w.alloc (.cells #[.slice A0 l0.length c0, .slice A1 l1.length c1] 29)) where
  blk := blk_new _ _
  below := (Below.refl _ _).alloc (Nat.le_refl _) _
theorem NetW.cells {A0 : Option Addr} {c0 : Nat} {l0 : List Int} {A1 : Option Addr} {c1 : Nat} {l1 : List S23} {w W : World} (h : NetW A0 c0 l0 A1 c1 l1 w W) : W.cell? ⟨w.heap.size, 0, none⟩ = some (.slice A0 l0.length c0) ∧ W.cell? ⟨w.heap.size, 1, none⟩ = some (.slice A1 l1.length c1) ∧ w.heap.size < W.heap.size :=
  ⟨(blk_cell h.blk 0).trans rfl, (blk_cell h.blk 1).trans rfl, blk_lt h.blk⟩
def regionIn (k : Nat) : Code → Option Code
  | .region i ops b => if i = k then some (.region i ops b) else none
  | .loop c => regionIn k c
  | .seq a b => match regionIn k a with
    | some c => some c
    | none => regionIn k b
  | .block _ c => regionIn k c
  | .scope c => regionIn k c
  | .cond _ a b => match regionIn k a with
    | some c => some c
    | none => regionIn k b
  | _ => none
end Go.Proofs.Ytdpadeklociinaa.PA
