/- The fixed answer that each law asks for. -/
import Derived.Test.YtbnkiikpolcpkaaQh
import Derived.Test.YtbnkiikpolcpkaaPUx25
namespace Go.Proofs.Ytbnkiikpolcpkaa.Al
open Go.RowKit Go.Proofs.Ytbnkiikpolcpkaa.PU Go.Proofs.Ytbnkiikpolcpkaa.Qh Go.Proofs.YtbnkiikpolcpkaaW.PrintWords Go.Proofs.YtbnkiikpolcpkaaW.PrintMore
set_option linter.unusedVariables false
set_option linter.unusedSimpArgs false
theorem alive : Ev (fun k => laws_alive.f k) true := Ev.of (fun k => laws_alive.mono k) (k := 12) (by decide +kernel)
end Go.Proofs.Ytbnkiikpolcpkaa.Al
