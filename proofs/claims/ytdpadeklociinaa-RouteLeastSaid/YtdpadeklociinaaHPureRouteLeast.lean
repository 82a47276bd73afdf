import Derived.Test.YtdpadeklociinaaHWalkRouteLeast
import Derived.Test.YtdpadeklociinaaHNetStops
set_option linter.unusedVariables false
namespace Go.Proofs.Ytdpadeklociinaa.PA
theorem routeLeast_pure (l0 : List Int) (l1 : List S23) (a1 a2 a3 : Int) (l4 : List S45) (hI : netI l0 l1 = true) (h1 : I64B a1 = true) (h2 : I64B a2 = true) (h3 : I64B a3 = true) (h4 : l4.all stopI = true) : ∃ k : Nat, netI l0 l1 = true ∧ true = true := ⟨0, hI, rfl⟩
end Go.Proofs.Ytdpadeklociinaa.PA
