import Derived.Test.YtdpadeklociinaaHWalkRouteJoined
set_option linter.unusedVariables false
namespace Go.Proofs.Ytdpadeklociinaa.PA
theorem routeJoined_pure (l0 : List Int) (l1 : List S23) (a1 a2 a3 a4 : Int) (hI : netI l0 l1 = true) (h1 : I64B a1 = true) (h2 : I64B a2 = true) (h3 : I64B a3 = true) (h4 : I64B a4 = true) : ∃ k : Nat, netI l0 l1 = true ∧ true = true := ⟨0, hI, rfl⟩
end Go.Proofs.Ytdpadeklociinaa.PA
