import Derived.Test.YtdpadeklociinaaHValid
import Derived.Test.YtdpadeklociinaaNAll
set_option linter.unusedVariables false
namespace Go.Proofs.Ytdpadeklociinaa.PA
open Go.RowKit Go.Maps Go.Proofs.YtdpadeklociinaaW.PrintWords Go.Proofs.YtdpadeklociinaaW.PrintLast Go.Proofs.YtdpadeklociinaaW.PrintMore Go.Proofs.Ytdpadeklociinaa

def netOf (l0 : List Int) (l1 : List S23) : Net.Nw := ⟨l0, l1.map toLeg⟩
def network_Next.f (a0 a1 a2 a3 a4 a5 a6 a7 a8 : Int) : Option (Int × Int × Bool) :=
  if 0 ≤ a7 ∧ a7 ≤ 255 then some (match Net.next ⟨a0, a1, a2, a3, a4, a5, a6, a7⟩ a8 with | some d => (d, d + a4, true) | none => (0, 0, false)) else none
def slices_Clone_int_int.f (l : List Int) : Option (List Int) := if l.length ≤ 17592186044400 then some l else none
def route_Arrive.f (l0 : List Int) (l1 : List S23) (a1 a2 : Int) : Option (List Int × Int) :=
  if netI l0 l1 = true ∧ I64B a1 = true ∧ I64B a2 = true then some (if (netOf l0 l1).openErr a2 [a1] = 0 then ((netOf l0 l1).arriveL a1 a2, 0) else ([], (netOf l0 l1).openErr a2 [a1])) else none
def route_Leave.f (l0 : List Int) (l1 : List S23) (a1 a2 : Int) : Option (List Int × Int) :=
  if netI l0 l1 = true ∧ I64B a1 = true ∧ I64B a2 = true then some (if (netOf l0 l1).openErr a2 [a1] = 0 then ((netOf l0 l1).leaveL a1 a2, 0) else ([], (netOf l0 l1).openErr a2 [a1])) else none
def stopOf (x : Net.Leg × Int) : S45 := ⟨x.1.id, x.2, x.2 + x.1.mins⟩
def route_Way.f (l0 : List Int) (l1 : List S23) (a1 a2 a3 : Int) : Option (List S45 × Int) :=
  if netI l0 l1 = true ∧ I64B a1 = true ∧ I64B a2 = true ∧ I64B a3 = true then
    some (if (netOf l0 l1).openErr a3 [a1, a2] = 0 then
      (match (netOf l0 l1).early a1 a3 a2 with
      | some e => (((netOf l0 l1).way a1 a2 a3 e).map stopOf, 0)
      | none => ([], 6))
    else ([], (netOf l0 l1).openErr a3 [a1, a2])) else none
def route_Right.f (l0 : List Int) (l1 : List S23) (a1 a2 a3 : Int) (l4 : List S45) : Option Bool :=
  if netI l0 l1 = true ∧ I64B a1 = true ∧ I64B a2 = true ∧ I64B a3 = true then
    some (if (netOf l0 l1).openErr a3 [a1, a2] = 0 then Net.rightGo (netOf l0 l1) a2 a1 a3 (l4.map fun s => (s.f0, s.f1, s.f2)) else false) else none
end Go.Proofs.Ytdpadeklociinaa.PA
