/- FnWaitsOk, as a plain function: it answers true. -/
import Derived.Test.YtbnkiikpolcpkaaWo
import Derived.Test.YtbnkiikpolcpkaaAl
import Derived.Test.YtbnkiikpolcpkaaDw
import Derived.Test.YtbnkiikpolcpkaaPUx26
namespace Go.Proofs.Ytbnkiikpolcpkaa.Fwo
open Go.RowKit Go.Proofs.Ytbnkiikpolcpkaa.PU Go.Proofs.Ytbnkiikpolcpkaa.Qh Go.Proofs.YtbnkiikpolcpkaaW.PrintWords Go.Proofs.YtbnkiikpolcpkaaW.PrintMore
set_option linter.unusedVariables false
set_option linter.unusedSimpArgs false
theorem holds : laws_FnWaitsOk.Pure := by
  intro l0 _ _ hu
  refine Ev.rounds (g := fun k => laws_FnWaitsOk.f k l0) ?_
  unfold laws_FnWaitsOk.f
  by_cases a : (l0.length : Int) > 1048576
  · exact evPos a (Ev.now _)
  refine evNeg a ?_
  obtain ⟨b, hb, ho⟩ := Dr.open_ l0 hu
  obtain ⟨m, l, q, hm, hl, _, _, hw⟩ := Dw.waits hb 0 3 (by omega) (by omega)
  have hd : Ev (fun k => spec_DrawWaitsOk.f k l0) (m, l) := by
    unfold spec_DrawWaitsOk.f
    exact evBind0 ho (Ev.bind hw (Ev.now _))
  have hb2 : ∀ (x : List Int) (y : List Wo.W), x.length ≤ 8 → y.length ≤ 8 → Ev (fun k => impl_WaitsOk.f k x y) (Wo.wOk x y) := fun x y h1 h2 => Wo.impl x y (by unfold Wo.big; omega) (by unfold Wo.big; omega)
  refine Ev.bind hd (Ev.bind (hb2 m l (by omega) (by omega)) (Ev.bind (Wo.spec m l (by unfold Wo.big; omega) (by unfold Wo.big; omega)) ?_))
  refine evF (bne_self_eq_false _) ?_
  refine Ev.bind (hb2 _ _ (by simp) (by simp)) (evT (by decide) ?_)
  refine Ev.bind (hb2 _ _ (by simp) (by simp)) (evF (by decide) ?_)
  refine evIte (fun h => ?_) (fun _ => ?_)
  · refine Ev.bind (hb2 m [] (by omega) (by simp)) (evT ?_ ?_)
    · have h : Wo.wOk m l = true := h
      simp only [Wo.wOk, Wo.szOk, Bool.and_eq_true, decide_eq_true_eq] at h ⊢
      exact ⟨⟨h.1.1, h.1.2.1, by simp⟩, h.2.1, by simp⟩
    · exact Ev.bind Al.alive (Ev.now _)
  · exact Ev.bind Al.alive (Ev.now _)
end Go.Proofs.Ytbnkiikpolcpkaa.Fwo
