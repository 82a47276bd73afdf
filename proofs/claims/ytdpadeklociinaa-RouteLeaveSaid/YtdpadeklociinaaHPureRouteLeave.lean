import Derived.Test.YtdpadeklociinaaHWalkRouteLeave
set_option linter.unusedVariables false
namespace Go.Proofs.Ytdpadeklociinaa.PA
theorem routeLeave_pure (l0 : List Int) (l1 : List S23) (a1 a2 a3 : Int) (hI : netI l0 l1 = true) (h1 : I64B a1 = true) (h2 : I64B a2 = true) (h3 : I64B a3 = true) : ∃ k : Nat, netI l0 l1 = true ∧ true = true := ⟨0, hI, rfl⟩
end Go.Proofs.Ytdpadeklociinaa.PA
