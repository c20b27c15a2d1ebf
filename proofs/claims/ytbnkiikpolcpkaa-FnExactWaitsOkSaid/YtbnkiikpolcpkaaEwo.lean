/- FnExactWaitsOk, as a plain function: it answers true. -/
import Derived.Test.YtbnkiikpolcpkaaWo
import Derived.Test.YtbnkiikpolcpkaaTo
import Derived.Test.YtbnkiikpolcpkaaTw
import Derived.Test.YtbnkiikpolcpkaaPUx15
namespace Go.Proofs.Ytbnkiikpolcpkaa.Ewo
open Go.RowKit Go.Proofs.Ytbnkiikpolcpkaa.PU Go.Proofs.Ytbnkiikpolcpkaa.Qh Go.Proofs.YtbnkiikpolcpkaaW.PrintWords Go.Proofs.YtbnkiikpolcpkaaW.PrintMore
set_option linter.unusedVariables false
set_option linter.unusedSimpArgs false
theorem holds (l0 : List Int) (l1 : List Tw.L) (h1 : l1.length ≤ maxLen) : ∃ k, laws_FnExactWaitsOk.f k l0 l1 = some true := by
  refine Ev.rounds (g := fun k => laws_FnExactWaitsOk.f k l0 l1) ?_
  unfold laws_FnExactWaitsOk.f
  unfold maxLen at h1
  by_cases a : (l0.length : Int) > 1048576
  · exact evPos a (Ev.now _)
  refine evNeg a ?_
  by_cases b : 1048576 < l1.length
  · exact evBind0 (Tw.szW_no l1 b h1) (evPos (by omega) (Ev.now _))
  have hb : (l1.map Tw.cv).length ≤ 1048576 := by rw [List.length_map]; omega
  refine evBind0 (Tw.szW l1 (by omega)) (evNeg (by omega) ?_)
  refine Ev.bind (To.toI l0 (by omega)) (Ev.bind (Tw.toW l1 (by omega)) ?_)
  refine Ev.bind (Wo.spec l0 _ (by unfold Wo.big; omega) (by unfold Wo.big; omega)) ?_
  refine Ev.bind (To.toI l0 (by omega)) (Ev.bind (Tw.toW l1 (by omega)) ?_)
  refine Ev.bind (Wo.impl l0 _ (by unfold Wo.big; omega) (by unfold Wo.big; omega)) ?_
  refine evF (bne_self_eq_false _) ?_
  refine Ev.bind (To.toI l0 (by omega)) (Ev.bind (To.eqI l0 (by omega)) (evT rfl ?_))
  exact Ev.bind (Tw.toW l1 (by omega)) (Ev.bind (Tw.eqW _ (by omega)) (evT rfl (Ev.now _)))
end Go.Proofs.Ytbnkiikpolcpkaa.Ewo
