/- FnWaitsOk, as a plain function, answers true at every input. No condition. -/
import Derived.Test.YtbnkiikpolcpkaaPUx26
import Derived.Test.YtbnkiikpolcpkaaFwo
namespace Go.Proofs.Ytbnkiikpolcpkaa.Pure
open Go.RowKit Go.Proofs.Ytbnkiikpolcpkaa.PU Go.Proofs.YtbnkiikpolcpkaaW.PrintWords Go.Proofs.YtbnkiikpolcpkaaW.PrintLast
theorem FnWaitsOk : laws_FnWaitsOk.Pure := Fwo.holds
end Go.Proofs.Ytbnkiikpolcpkaa.Pure
