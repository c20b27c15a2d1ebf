/- What the exact laws do to lists of payments: copied, compared with itself, marked. -/
import Derived.Test.YtbnkiikpolcpkaaQh
import Derived.Test.YtbnkiikpolcpkaaPUx9
import Derived.Test.YtbnkiikpolcpkaaPUx14
import Derived.Test.YtbnkiikpolcpkaaPUx4
namespace Go.Proofs.Ytbnkiikpolcpkaa.Tw
open Go.RowKit Go.Proofs.Ytbnkiikpolcpkaa.PU Go.Proofs.Ytbnkiikpolcpkaa.Qh Go.Proofs.YtbnkiikpolcpkaaW.PrintWords Go.Proofs.YtbnkiikpolcpkaaW.PrintMore
set_option linter.unusedVariables false
set_option linter.unusedSimpArgs false
abbrev W := S47
abbrev L := S51
def cv (x : L) : W := ⟨x.f0, x.f1, x.f2⟩
theorem rW (xs : List W) (i : Nat) : rd_T47 xs (i : Int) = xs.getD i z47 := rfl
theorem rL (xs : List L) (i : Nat) : rd_T51 xs (i : Int) = xs.getD i z51 := rfl
theorem szW (l : List L) (hl : l.length ≤ 1048576) : laws_szWaitS.f l 1048576 = some (1048576 - (l.length : Int)) := by
  unfold laws_szWaitS.f
  rw [w64 (by omega) (by omega), if_neg (by omega)]
theorem szW_no (l : List L) (hl : 1048576 < l.length) (hm : l.length ≤ 9223372036854775807) : laws_szWaitS.f l 1048576 = some (-1) := by
  unfold laws_szWaitS.f
  rw [w64 (by omega) (by omega), if_pos (by omega)]
theorem toW_l (l : List L) (hl : l.length ≤ 1048576) : ∀ (d i : Nat) (o : List W), l.length - i = d → i ≤ l.length → o.length = l.length → (∀ j : Nat, j < i → o.getD j z47 = cv (l.getD j z51)) →
    Ev (fun k => laws_toWaitS.l0 k l o (i : Int)) (l.map cv) := by
  intro d
  induction d with
  | zero =>
    intro i o hd hi ho hj
    obtain rfl : i = l.length := by omega
    refine Ev.step (fun k => by rw [laws_toWaitS.l0]) ?_
    refine evNeg (by omega) ?_
    refine evNow ?_
    rw [ext_getD z47 o (l.map cv) (by simp [ho]) (fun j h => by rw [hj j (by omega), getD_map cv z51 _ l j (by omega)])]
  | succ d ih =>
    intro i o hd hi ho hj
    have hlt : i < l.length := by omega
    have hs : wrap64 ((i : Int) + 1) = ((i + 1 : Nat) : Int) := wsucc hlt (by omega)
    refine Ev.step (fun k => by rw [laws_toWaitS.l0]) ?_
    refine evPos (by omega) (evPos (by omega) (evBind0 rfl (evPos (by omega) ?_)))
    rw [hs, Int.toNat_natCast]
    refine ih (i + 1) _ (by omega) (by omega) (by simp [ho]) (fun j h => ?_)
    rw [getD_set _ _ _ _ _ (by omega)]
    by_cases e : i = j
    · subst e; rw [if_pos rfl]; rfl
    · rw [if_neg e]; exact hj j (by omega)
theorem toW (l : List L) (hl : l.length ≤ 1048576) : Ev (fun k => laws_toWaitS.f k l) (l.map cv) := by
  unfold laws_toWaitS.f
  refine evPos (by omega) (evPos (by omega) ?_)
  exact toW_l l hl l.length 0 _ (by omega) (by omega) (by simp) (fun j h => by omega)
theorem eqW1 (a b c : Int) : laws_eqWait.f a b c a b c = some true := by unfold laws_eqWait.f; simp
theorem eqW_l (l : List W) (hl : l.length ≤ 4611686018427387904) : ∀ (d i : Nat), l.length - i = d → i ≤ l.length → Ev (fun k => laws_eqWaitS.l0 k l l (i : Int)) true := by
  intro d
  induction d with
  | zero =>
    intro i hd hi
    refine Ev.step (fun k => by rw [laws_eqWaitS.l0]) ?_
    exact evNeg (by omega) (Ev.now _)
  | succ d ih =>
    intro i hd hi
    have hlt : i < l.length := by omega
    have hs : wrap64 ((i : Int) + 1) = ((i + 1 : Nat) : Int) := wsucc hlt (by omega)
    refine Ev.step (fun k => by rw [laws_eqWaitS.l0]) ?_
    refine evPos (by omega) (evPos (by omega) (evPos (by omega) (evBind0 (eqW1 _ _ _) (evT rfl ?_))))
    rw [hs]
    exact ih (i + 1) (by omega) (by omega)
theorem eqW (l : List W) (hl : l.length ≤ 4611686018427387904) : Ev (fun k => laws_eqWaitS.f k l l) true := by
  unfold laws_eqWaitS.f
  exact evPos rfl (eqW_l l hl l.length 0 (by omega) (by omega))
end Go.Proofs.Ytbnkiikpolcpkaa.Tw
