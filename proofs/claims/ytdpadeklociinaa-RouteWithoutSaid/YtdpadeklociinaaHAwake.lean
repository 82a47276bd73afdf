import Derived.Test.YtdpadeklociinaaPAx6
set_option linter.unusedVariables false
set_option linter.unusedSimpArgs false
namespace Go.Proofs.Ytdpadeklociinaa.PA
open Go.RowKit Go.Maps Go.Proofs.YtdpadeklociinaaW.PrintWords Go.Proofs.YtdpadeklociinaaW.PrintLast Go.Proofs.YtdpadeklociinaaW.PrintMore Go.Proofs.Ytdpadeklociinaa
set_option maxRecDepth 100000
theorem awake_f : letterbaglaw33_awake.f 10 = some true := by kernel_rfl
end Go.Proofs.Ytdpadeklociinaa.PA
