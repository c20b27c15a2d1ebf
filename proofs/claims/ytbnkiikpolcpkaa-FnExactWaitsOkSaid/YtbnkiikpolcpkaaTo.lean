/- What the exact laws do to lists of numbers: copied, compared with itself, marked, and asked whether the marks are held. -/
import Derived.Test.YtbnkiikpolcpkaaQh
import Derived.Test.YtbnkiikpolcpkaaPUx7
import Derived.Test.YtbnkiikpolcpkaaPUx12
import Derived.Test.YtbnkiikpolcpkaaPUx33
import Derived.Test.YtbnkiikpolcpkaaPUx35
namespace Go.Proofs.Ytbnkiikpolcpkaa.To
open Go.RowKit Go.Proofs.Ytbnkiikpolcpkaa.PU Go.Proofs.Ytbnkiikpolcpkaa.Qh Go.Proofs.YtbnkiikpolcpkaaW.PrintWords Go.Proofs.YtbnkiikpolcpkaaW.PrintMore
set_option linter.unusedVariables false
set_option linter.unusedSimpArgs false
theorem toI_l (l : List Int) (hl : l.length ≤ 1048576) : ∀ (d i : Nat) (o : List Int), l.length - i = d → i ≤ l.length → o.length = l.length → (∀ j : Nat, j < i → rd o (j : Int) = rd l (j : Int)) →
    Ev (fun k => laws_toIntS.l0 k l o (i : Int)) l := by
  intro d
  induction d with
  | zero =>
    intro i o hd hi ho hj
    obtain rfl : i = l.length := by omega
    refine Ev.step (fun k => by rw [laws_toIntS.l0]) ?_
    refine evNeg (by omega) ?_
    exact evNow (by rw [ext_rd o l ho (fun j h => hj j (by omega))])
  | succ d ih =>
    intro i o hd hi ho hj
    have hlt : i < l.length := by omega
    have hs : wrap64 ((i : Int) + 1) = ((i + 1 : Nat) : Int) := wsucc hlt (by omega)
    refine Ev.step (fun k => by rw [laws_toIntS.l0]) ?_
    refine evPos (by omega) (evPos (by omega) (evPos (by omega) ?_))
    rw [hs]
    refine ih (i + 1) _ (by omega) (by omega) (by simp [ho]) (fun j h => ?_)
    rw [rd_set _ _ _ _ (by omega) (by omega) (by omega)]
    by_cases e : (i : Int) = j
    · rw [if_pos e, e]
    · rw [if_neg e]; exact hj j (by omega)
theorem toI (l : List Int) (hl : l.length ≤ 1048576) : Ev (fun k => laws_toIntS.f k l) l := by
  unfold laws_toIntS.f
  refine evPos (by omega) (evPos (by omega) ?_)
  exact toI_l l hl l.length 0 _ (by omega) (by omega) (by simp) (fun j h => by omega)
theorem eqI_l (l : List Int) (hl : l.length ≤ 4611686018427387904) : ∀ (d i : Nat), l.length - i = d → i ≤ l.length → Ev (fun k => laws_eqIntS.l0 k l l (i : Int)) true := by
  intro d
  induction d with
  | zero =>
    intro i hd hi
    refine Ev.step (fun k => by rw [laws_eqIntS.l0]) ?_
    exact evNeg (by omega) (Ev.now _)
  | succ d ih =>
    intro i hd hi
    have hlt : i < l.length := by omega
    have hs : wrap64 ((i : Int) + 1) = ((i + 1 : Nat) : Int) := wsucc hlt (by omega)
    refine Ev.step (fun k => by rw [laws_eqIntS.l0]) ?_
    refine evPos (by omega) (evPos (by omega) (evPos (by omega) (evPos rfl ?_)))
    rw [hs]
    exact ih (i + 1) (by omega) (by omega)
theorem eqI (l : List Int) (hl : l.length ≤ 4611686018427387904) : Ev (fun k => laws_eqIntS.f k l l) true := by
  unfold laws_eqIntS.f
  exact evPos rfl (eqI_l l hl l.length 0 (by omega) (by omega))
/-- Marked from k on. -/
def Marked (y : List Int) (n : Nat) (k : Int) : Prop := y.length = n ∧ ∀ j : Nat, j < n → rd y (j : Int) = k + j
theorem mkI_l (n : Nat) (hn : n ≤ 1048576) (k0 : Int) (h0 : 0 ≤ k0) (h1 : k0 ≤ 4611686018427387904) : ∀ (d i : Nat) (x : List Int), n - i = d → i ≤ n → x.length = n → (∀ j : Nat, j < i → rd x (j : Int) = k0 + j) →
    ∃ y, Marked y n k0 ∧ Ev (fun k => laws_markIntS.l0 k x (k0 + i) (i : Int)) (k0 + n, y) := by
  intro d
  induction d with
  | zero =>
    intro i x hd hi hx hj
    obtain rfl : i = n := by omega
    refine ⟨x, ⟨hx, hj⟩, ?_⟩
    refine Ev.step (fun k => by rw [laws_markIntS.l0]) ?_
    exact evNeg (by omega) (Ev.now _)
  | succ d ih =>
    intro i x hd hi hx hj
    have hlt : i < n := by omega
    have hs : wrap64 ((i : Int) + 1) = ((i + 1 : Nat) : Int) := wsucc hlt (by omega)
    have hk : wrap64 (k0 + i + 1) = k0 + ((i + 1 : Nat) : Int) := by rw [w64 (by omega) (by omega)]; omega
    obtain ⟨y, hy, he⟩ := ih (i + 1) (x.set i (k0 + i)) (by omega) (by omega) (by simp [hx]) (fun j h => by
      have := rd_set x (k0 + i) (i : Int) (j : Int) (by omega) (by omega) (by omega)
      rw [Int.toNat_natCast] at this
      rw [this]
      by_cases e : (i : Int) = j
      · rw [if_pos e, e]
      · rw [if_neg e]; exact hj j (by omega))
    refine ⟨y, hy, ?_⟩
    refine Ev.step (fun k => by rw [laws_markIntS.l0]) ?_
    refine evPos (by omega) (evPos (by omega) ?_)
    rw [hs, hk, Int.toNat_natCast]
    exact he
theorem mkI (l : List Int) (hn : l.length ≤ 1048576) (k0 : Int) (h0 : 0 ≤ k0) (h1 : k0 ≤ 4611686018427387904) : ∃ y, Marked y l.length k0 ∧ Ev (fun k => laws_markIntS.f k l k0) (k0 + l.length, y) := by
  obtain ⟨y, hy, he⟩ := mkI_l l.length hn k0 h0 h1 l.length 0 l (by omega) (by omega) rfl (fun j h => by omega)
  exact ⟨y, hy, by unfold laws_markIntS.f; simpa using he⟩
theorem hdI_l (y : List Int) (n : Nat) (hn : n ≤ 1048576) (k0 : Int) (h0 : 0 ≤ k0) (h1 : k0 ≤ 4611686018427387904) (hy : Marked y n k0) : ∀ (d i : Nat), n - i = d → i ≤ n →
    Ev (fun k => laws_heldIntS.l0 k y (k0 + i) (i : Int)) (k0 + n) := by
  have hl := hy.1
  intro d
  induction d with
  | zero =>
    intro i hd hi
    obtain rfl : i = n := by omega
    refine Ev.step (fun k => by rw [laws_heldIntS.l0]) ?_
    exact evNeg (by omega) (Ev.now _)
  | succ d ih =>
    intro i hd hi
    have hlt : i < n := by omega
    have hs : wrap64 ((i : Int) + 1) = ((i + 1 : Nat) : Int) := wsucc hlt (by omega)
    have hk : wrap64 (k0 + i + 1) = k0 + ((i + 1 : Nat) : Int) := by rw [w64 (by omega) (by omega)]; omega
    refine Ev.step (fun k => by rw [laws_heldIntS.l0]) ?_
    refine evPos (by omega) (evPos (by omega) (evPos (hy.2 i hlt) ?_))
    rw [hs, hk]
    exact ih (i + 1) (by omega) (by omega)
theorem hdI (y : List Int) (n : Nat) (hn : n ≤ 1048576) (k0 : Int) (h0 : 0 ≤ k0) (h1 : k0 ≤ 4611686018427387904) (hy : Marked y n k0) : Ev (fun k => laws_heldIntS.f k y k0) (k0 + n) := by
  unfold laws_heldIntS.f
  have := hdI_l y n hn k0 h0 h1 hy n 0 (by omega) (by omega)
  simpa using this
end Go.Proofs.Ytbnkiikpolcpkaa.To
