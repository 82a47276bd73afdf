import Derived.Test.YtdpadeklociinaaHNetW
set_option linter.unusedVariables false
set_option linter.unusedSimpArgs false
namespace Go.Proofs.Ytdpadeklociinaa.PA
open Go.RowKit Go.Maps Go.Proofs.YtdpadeklociinaaW.PrintWords Go.Proofs.YtdpadeklociinaaW.PrintLast Go.Proofs.YtdpadeklociinaaW.PrintMore Go.Proofs.Ytdpadeklociinaa
noncomputable def later16 : Code := ((Try.f4.body.bind (regionIn 16)).getD .skip)
end Go.Proofs.Ytdpadeklociinaa.PA
