/- FnExactWaitsOk: for every input the law holds, and each argument reads as it read before. No condition. -/
import Derived.Test.YtbnkiikpolcpkaaRows
import Derived.Test.YtbnkiikpolcpkaaPUx15
import Derived.Test.YtbnkiikpolcpkaaOp
import Derived.Test.YtbnkiikpolcpkaaEwo
import Derived.WalkKit
import Derived.ProofKit
import Derived.OpenShut
import Derived.ShutString
import Derived.ChangeOld
import Derived.Below
import Derived.SizedLaws
namespace Go.Proofs.Ytbnkiikpolcpkaa.fnExactWaitsOk
open Go.ChangeShapes Go.WideShapes Go.ChangeAt Go.RowKit Go.Proofs.Ytbnkiikpolcpkaa.PU Go.Proofs.YtbnkiikpolcpkaaW.PrintWords
open Go.ChangeMaps (open_string shut_string)
set_option linter.unusedVariables false
theorem own : ownKnob Try.prog.godebug = none := by kernel_rfl
theorem laidOut : laidOutB Try.prog = true := by kernel_rfl
abbrev G3 (_ : Int) : Prop := True
theorem o3 : Op.Opens Try.prog 3 (Kd.int .i64) G3 := Op.opens_int Try.underlying3 (by kernel_rfl)
abbrev G22 (x : List Int) : Prop := x.length ≤ maxLen ∧ ∀ y ∈ x, G3 y
theorem o22 : Op.Opens Try.prog 22 (Kd.slice 3 (Kd.int .i64)) G22 := Op.opens_slice Try.underlying22 (by kernel_rfl) o3
abbrev G51 (x : S51) : Prop := G3 x.f0 ∧ G3 x.f1 ∧ G3 x.f2
theorem o51 : Op.Opens Try.prog 51 k51 G51 := Op.opens_iso (Op.opens_struct Try.underlying51 (by kernel_rfl) (Op.opensF_cons rfl o3 (Op.opensF_cons rfl o3 (Op.opensF_one rfl o3)))) (fun x : S51 => (x.f0, x.f1, x.f2)) (fun z => (⟨z.1, z.2.1, z.2.2⟩ : S51)) (fun _ => rfl)
abbrev G23 (x : List S51) : Prop := x.length ≤ maxLen ∧ ∀ y ∈ x, G51 y
theorem o23 : Op.Opens Try.prog 23 (Kd.slice 51 k51) G23 := Op.opens_slice Try.underlying23 (by kernel_rfl) o51
set_option maxRecDepth 100000 in
theorem lifted (os : Os) (started : os.Started) (H : Type) (enc : TypeId × Value → H) :
    ReturnsInHanded {} Try.checked os 3 .any (Rows.fnExactWaitsOkSpec.pre6 enc Try.prog Try.f3 Rows.fnExactWaitsOkRow.domain false) (Rows.fnExactWaitsOkSpec.post enc Try.prog Try.f3 false true false false) := by
  refine returnsInHanded_of_change_sized (C := Try.checked) own started (by kernel_rfl) Try.func3
    (ChangeSpec.witness6 (enc := enc) (C := Try.checked) false ⟨#[], #[.slice none 0 0, .slice none 0 0], []⟩ 8 (by kernel_rfl) (by kernel_rfl) (by kernel_rfl) (by kernel_rfl)) ?_
  intro W base args ds gs before hval0 hW _ _ _
  have hval : ∀ (j : Nat) t v, Try.f3.params[j]? = some t → args[j]? = some v → Value.okWide Try.prog W .any base t v := hval0
  have hW' := hW
  obtain ⟨p, q, hA0, hV, rfl, _, _⟩ := hW
  have hA : DataW.TrodAll enc Try.prog W 0 (fun _ => true) true Try.f3.params.toList args.toList ds p := hA0
  rw [Try.params3] at hA hval
  obtain ⟨v0, vs0, d0, ds0, p0, q0, hargs, rfl, rfl, h0, r0⟩ := trodAll_cons hA
  obtain ⟨v1, vs1, d1, ds1, p1, q1, rfl, rfl, rfl, h1, r1⟩ := trodAll_cons r0
  obtain ⟨rfl, rfl, rfl⟩ := trodAll_nil r1
  obtain rfl : args = #[v0, v1] := by cases args; simp_all
  obtain ⟨rfl, rfl⟩ := trodVars_none hV
  have k0 := h0
  have lt0 : ∀ x ∈ p0, x.block < W.heap.size := by obtain ⟨m, hm⟩ := k0; exact DataW.trod_lt m _ _ _ hm
  obtain ⟨A0, c0, l0, rfl, hc0, hr0, g0⟩ := Op.open_arg o22 (okWide_slice Try.underlying22 (hval 0 22 v0 rfl rfl)) h0
  have k1 := h1
  have lt1 : ∀ x ∈ p1, x.block < W.heap.size := by obtain ⟨m, hm⟩ := k1; exact DataW.trod_lt m _ _ _ hm
  obtain ⟨A1, c1, l1, rfl, hc1, hr1, g1⟩ := Op.open_arg o23 (okWide_slice Try.underlying23 (hval 1 23 v1 rfl rfl)) h1
  obtain ⟨k, hk⟩ := Ewo.holds l0 l1 g1.1
  refine (laws_FnExactWaitsOk.calls k A0 c0 l0 A1 c1 l1 true W hr0 hc0 hr1 hc1 hk).mono fun e W' ⟨he, bel⟩ => ?_
  subst he
  exact ⟨_, rfl, _, _, _, [], _, [], hW', trodAll_mk1 (shut_bool Try.underlying4 _), (trodAll_cons_mk (Below.trod laidOut (by kernel_rfl) (of_decide_eq_true (by kernel_rfl)) k0 bel lt0) (trodAll_cons_mk (Below.trod laidOut (by kernel_rfl) (of_decide_eq_true (by kernel_rfl)) k1 bel lt1) trodAll_mk0)), rfl, bel.frame _, fun h => by cases h⟩
theorem over : Rows.fnExactWaitsOkRow.holds Try.pinned (OpenSpec.ofChange Rows.fnExactWaitsOkSpec) :=
  OpenClaim.holds_of_wide 3 Try.f3 rfl rfl rfl rfl rfl rfl rfl ⟨rfl, rfl, rfl, rfl, rfl⟩ rfl rfl rfl rfl rfl (by kernel_rfl) Try.func3 (by kernel_rfl)
    (of_decide_eq_true (by kernel_rfl)) (by unfold Func.isWrapper; first | (rw [if_pos (by decide +kernel)]; kernel_rfl) | (rw [if_neg (by decide +kernel)]; exact ⟨rfl, rfl⟩))
    (fun os started H enc _ => lifted os started H enc)
theorem proved : Rows.FnExactWaitsOkSaid := over
#print axioms proved
end Go.Proofs.Ytbnkiikpolcpkaa.fnExactWaitsOk
namespace Go.Proofs.Ytbnkiikpolcpkaa
/-- The row, under a short name, for the claim. -/
theorem fnExactWaitsOk_holds : Rows.FnExactWaitsOkSaid := fnExactWaitsOk.proved
end Go.Proofs.Ytbnkiikpolcpkaa
