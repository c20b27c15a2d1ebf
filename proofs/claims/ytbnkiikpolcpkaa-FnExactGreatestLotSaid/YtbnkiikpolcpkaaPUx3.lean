-- PRINTED by print.py (a twelfth state) out of the translation. Not trusted: Lean checks it.
import Derived.Test.YtbnkiikpolcpkaaPUx0
import Derived.Test.YtbnkiikpolcpkaaPUx2
namespace Go.Proofs.Ytbnkiikpolcpkaa.PU
open Go.RowKit Go.Proofs.YtbnkiikpolcpkaaW.PrintWords Go.Proofs.YtbnkiikpolcpkaaW.PrintLast Go.Proofs.YtbnkiikpolcpkaaW.PrintMore
attribute [local go_sem] max2_int min2_int max_two min_two max_three min_three max_four min_four   -- for this text's walks alone
set_option linter.unusedVariables false
set_option linter.unusedSimpArgs false

/-! ### ContainsFunc_isLot1: function 85 -/
def ContainsFunc_isLot1.f (l0 : List Int) : Option (Bool) := (IndexFunc_isLot1.f l0).bind fun t => some (decide (t ≥ 0))
set_option maxHeartbeats 1000000 in
set_option maxRecDepth 100000 in
theorem ContainsFunc_isLot1.calls (A0 : Option Addr) (c0 : Nat) (l0 : List Int) (r : Bool) (w : World) (hr0 : Kd.C (Kd.int .i64) w A0 l0.length l0) (hc0 : l0.length ≤ c0) (h : ContainsFunc_isLot1.f l0 = some r) :
    Calls Try.prog 63 #[.slice A0 l0.length c0, .func (.func 64) #[] #[]] w fun e w' => e = .returned (.bool r) ∧ Drawn0 w w' := by
  have h' : (IndexFunc_isLot1.f l0).bind (fun t => some (decide (t ≥ 0))) = some r := h
  clear h
  obtain ⟨t, ht, h⟩ := Option.bind_eq_some_iff.mp h'
  clear h'
  have HR0 := Aside0.mk hr0
  have HC0 := Aside0.mk hc0
  have HT := Aside0.mk ht
  have h2 : decide (t ≥ 0) = r := Option.some.inj h
  have HD := Aside0.mk h2
  clear hr0 hc0 ht h h2
  go_enter Try.func63, Try.ntmps63
  go_wp2_with (go_at_call 65; refine (IndexFunc_isLot1.calls A0 c0 l0 t _ HR0.out HC0.out HT.out).mono ?_; rintro e w' ⟨rfl, ⟨nd, rfl⟩⟩)
  go_ret
  exact ⟨by rw [← HD.out]; rfl, by repeat (first | exact Drawn0.refl _ | apply Drawn0.step)⟩


end Go.Proofs.Ytbnkiikpolcpkaa.PU
