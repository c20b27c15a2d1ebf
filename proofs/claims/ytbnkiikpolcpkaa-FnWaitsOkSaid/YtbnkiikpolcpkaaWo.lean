/- WaitsOk, the program's and the reference's: both come to one plain test. -/
import Derived.Test.YtbnkiikpolcpkaaQh
import Derived.Test.YtbnkiikpolcpkaaPUx6
import Derived.Test.YtbnkiikpolcpkaaPUx11
namespace Go.Proofs.Ytbnkiikpolcpkaa.Wo
open Go.RowKit Go.Proofs.Ytbnkiikpolcpkaa.PU Go.Proofs.Ytbnkiikpolcpkaa.Qh Go.Proofs.YtbnkiikpolcpkaaW.PrintWords Go.Proofs.YtbnkiikpolcpkaaW.PrintMore
set_option linter.unusedVariables false
set_option linter.unusedSimpArgs false
abbrev W := S47
def big : Nat := 4611686018427387904
def okM (x : Int) : Bool := decide (0 ≤ x ∧ x ≤ 20)
def okW (n : Nat) (w : W) : Bool := decide (0 ≤ w.f0 ∧ w.f0 < n ∧ 0 ≤ w.f1 ∧ w.f1 < n ∧ w.f0 ≠ w.f1 ∧ 1 ≤ w.f2 ∧ w.f2 ≤ 20)
def szOk (m : List Int) (l : List W) : Bool := decide (1 ≤ m.length ∧ m.length ≤ 4 ∧ l.length ≤ 7)
def wOk (m : List Int) (l : List W) : Bool := szOk m l && (m.all okM && l.all (okW m.length))
theorem l1In (a lo hi : Int) : spec_l1In.f a lo hi = some (decide (lo ≤ a ∧ a ≤ hi)) := by
  unfold spec_l1In.f
  by_cases h : a ≥ lo
  · rw [if_pos h]; have : lo ≤ a := h; simp [this]
  · rw [if_neg h]; have : ¬ lo ≤ a := h; simp [this]
theorem dropW (l : List W) (i : Nat) (h : i < l.length) : l.drop i = rd_T47 l (i : Int) :: l.drop (i + 1) := by
  have := drop_of l z47 i h
  simpa [rd_T47] using this
theorem all_dropW (l : List W) (p : W → Bool) (i : Nat) (h : i < l.length) : (l.drop i).all p = (p (rd_T47 l (i : Int)) && (l.drop (i + 1)).all p) := by
  rw [dropW l i h]; rfl
theorem all_dropI (l : List Int) (p : Int → Bool) (i : Nat) (h : i < l.length) : (l.drop i).all p = (p (rd l (i : Int)) && (l.drop (i + 1)).all p) := by
  rw [drop_rd l i h]; rfl
theorem s1 (m : List Int) (l : List W) (hm : m.length ≤ big) (hl : l.length ≤ big) : ∀ (d i : Nat), l.length - i = d → i ≤ l.length →
    Ev (fun k => spec_WaitsOk.l1 k m l (i : Int)) (szOk m l && (l.drop i).all (okW m.length)) := by
  unfold big at hm hl
  intro d
  induction d with
  | zero =>
    intro i hd hi
    obtain rfl : i = l.length := by omega
    refine Ev.step (fun k => by rw [spec_WaitsOk.l1]) ?_
    refine evNeg (by omega) ?_
    refine evBind0 (l1In _ _ _) ?_
    refine evIte (fun h => ?_) (fun h => ?_)
    · refine evNow ?_
      simp only [decide_eq_true_eq] at h
      have e : szOk m l = decide ((l.length : Int) ≤ 7) := by
        unfold szOk
        by_cases h7 : l.length ≤ 7
        · rw [decide_eq_true (by omega), decide_eq_true (by omega)]
        · rw [decide_eq_false (by omega), decide_eq_false (by omega)]
      simp [e]
    · refine evNow ?_
      simp only [decide_eq_true_eq] at h
      have e : szOk m l = false := by unfold szOk; rw [decide_eq_false (by omega)]
      simp [e]
  | succ d ih =>
    intro i hd hi
    have hlt : i < l.length := by omega
    have hr := ih (i + 1) (by omega) (by omega)
    rw [all_dropW l _ i hlt]
    have hw : wrap64 ((m.length : Int) - 1) = (m.length : Int) - 1 := w64 (by omega) (by omega)
    have hs : wrap64 ((i : Int) + 1) = ((i + 1 : Nat) : Int) := wsucc hlt (by omega)
    refine Ev.step (fun k => by rw [spec_WaitsOk.l1]) ?_
    generalize rd_T47 l (i : Int) = x at *
    refine evPos (by omega) (evPos (by omega) ?_)
    rw [hw, hs]
    repeat' first | refine evBind0 (l1In _ _ _) ?_ | refine evIte (fun h => ?_) (fun h => ?_)
    all_goals simp only [decide_eq_true_eq] at *
    all_goals first
      | exact evEq hr (by rw [show okW m.length x = true from decide_eq_true (by omega), Bool.true_and])
      | exact evNow (by rw [show okW m.length x = false from decide_eq_false (by omega), Bool.false_and, Bool.and_false])
theorem s0 (m : List Int) (l : List W) (hm : m.length ≤ big) (hl : l.length ≤ big) : ∀ (d i : Nat), m.length - i = d → i ≤ m.length →
    Ev (fun k => spec_WaitsOk.l0 k m l (i : Int)) (szOk m l && ((m.drop i).all okM && l.all (okW m.length))) := by
  intro d
  induction d with
  | zero =>
    intro i hd hi
    obtain rfl : i = m.length := by omega
    refine Ev.step (fun k => by rw [spec_WaitsOk.l0]) ?_
    refine evNeg (by omega) ?_
    exact evEq (s1 m l hm hl l.length 0 (by omega) (by omega)) (by simp)
  | succ d ih =>
    intro i hd hi
    have hlt : i < m.length := by omega
    have hr := ih (i + 1) (by omega) (by omega)
    rw [all_dropI m _ i hlt]
    have hs : wrap64 ((i : Int) + 1) = ((i + 1 : Nat) : Int) := wsucc hlt hm
    refine Ev.step (fun k => by rw [spec_WaitsOk.l0]) ?_
    generalize rd m (i : Int) = x at *
    refine evPos (by omega) (evPos (by omega) ?_)
    rw [hs]
    repeat' first | refine evBind0 (l1In _ _ _) ?_ | refine evIte (fun h => ?_) (fun h => ?_)
    all_goals simp only [decide_eq_true_eq] at *
    all_goals first
      | exact evEq hr (by rw [show okM x = true from decide_eq_true (by omega), Bool.true_and])
      | exact evNow (by rw [show okM x = false from decide_eq_false (by omega), Bool.false_and, Bool.false_and, Bool.and_false])
/-- The reference's. -/
theorem spec (m : List Int) (l : List W) (hm : m.length ≤ big) (hl : l.length ≤ big) : Ev (fun k => spec_WaitsOk.f k m l) (wOk m l) :=
  s0 m l hm hl m.length 0 (by omega) (by omega)
theorem i1 (m : List Int) (l : List W) (hm : m.length ≤ big) (hl : l.length ≤ big) : ∀ (d i : Nat), l.length - i = d → i ≤ l.length →
    Ev (fun k => impl_areWaits.l1 k (m.length : Int) l (l.length : Int) (i : Int)) ((l.drop i).all (okW m.length)) := by
  intro d
  induction d with
  | zero =>
    intro i hd hi
    obtain rfl : i = l.length := by omega
    refine Ev.step (fun k => by rw [impl_areWaits.l1]) ?_
    refine evNeg (by omega) ?_
    exact evNow (by simp)
  | succ d ih =>
    intro i hd hi
    have hlt : i < l.length := by omega
    have hr := ih (i + 1) (by omega) (by omega)
    rw [all_dropW l _ i hlt]
    refine Ev.step (fun k => by rw [impl_areWaits.l1]) ?_
    generalize rd_T47 l (i : Int) = x at *
    have hs : wrap64 ((i : Int) + 1) = ((i + 1 : Nat) : Int) := wsucc hlt hl
    refine evPos (by omega) (evPos (by omega) (evPos (by omega) ?_))
    rw [hs]
    repeat' first | refine evIte (fun h => ?_) (fun h => ?_)
    all_goals first
      | exact evEq hr (by rw [show okW m.length x = true from decide_eq_true (by omega), Bool.true_and])
      | exact evNow (by rw [show okW m.length x = false from decide_eq_false (by omega), Bool.false_and])
theorem i0 (m : List Int) (l : List W) (hm : m.length ≤ big) (hl : l.length ≤ big) : ∀ (d i : Nat), m.length - i = d → i ≤ m.length →
    Ev (fun k => impl_areWaits.l0 k l (m.length : Int) m (m.length : Int) (i : Int)) ((m.drop i).all okM && l.all (okW m.length)) := by
  intro d
  induction d with
  | zero =>
    intro i hd hi
    obtain rfl : i = m.length := by omega
    refine Ev.step (fun k => by rw [impl_areWaits.l0]) ?_
    refine evNeg (by omega) ?_
    exact evEq (i1 m l hm hl l.length 0 (by omega) (by omega)) (by simp)
  | succ d ih =>
    intro i hd hi
    have hlt : i < m.length := by omega
    have hr := ih (i + 1) (by omega) (by omega)
    rw [all_dropI m _ i hlt]
    refine Ev.step (fun k => by rw [impl_areWaits.l0]) ?_
    generalize rd m (i : Int) = x at *
    have hs : wrap64 ((i : Int) + 1) = ((i + 1 : Nat) : Int) := wsucc hlt hm
    refine evPos (by omega) (evPos (by omega) (evPos (by omega) ?_))
    rw [hs]
    repeat' first | refine evIte (fun h => ?_) (fun h => ?_)
    all_goals first
      | exact evEq hr (by rw [show okM x = true from decide_eq_true (by omega), Bool.true_and])
      | exact evNow (by rw [show okM x = false from decide_eq_false (by omega), Bool.false_and, Bool.false_and])
theorem ij (m : List Int) (l : List W) (hm : m.length ≤ big) (hl : l.length ≤ big) (b : Bool) (hb : b = !szOk m l) :
    Ev (fun k => impl_areWaits.j0 k m l (m.length : Int) b) (wOk m l) := by
  refine Ev.step (fun k => by rw [impl_areWaits.j0]) ?_
  subst hb
  unfold wOk
  refine evIte (fun h => evNow ?_) (fun h => ?_)
  · have e : szOk m l = false := by simpa using h
    simp [e]
  · have e : szOk m l = true := by simpa using h
    exact evEq (i0 m l hm hl m.length 0 (by omega) (by omega)) (by simp [e])
/-- The program's. -/
theorem areWaits (m : List Int) (l : List W) (hm : m.length ≤ big) (hl : l.length ≤ big) : Ev (fun k => impl_areWaits.f k m l) (wOk m l) := by
  unfold impl_areWaits.f
  refine evIte (fun h => ij m l hm hl _ ?_) (fun h => evIte (fun h' => ij m l hm hl _ ?_) (fun h' => ij m l hm hl _ ?_))
  · rw [show szOk m l = false from decide_eq_false (by omega)]; rfl
  · rw [show szOk m l = false from decide_eq_false (by omega)]; rfl
  · by_cases h7 : l.length ≤ 7
    · rw [show szOk m l = true from decide_eq_true (by omega), decide_eq_false (by omega)]; rfl
    · rw [show szOk m l = false from decide_eq_false (by omega), decide_eq_true (by omega)]; rfl
theorem impl (m : List Int) (l : List W) (hm : m.length ≤ big) (hl : l.length ≤ big) : Ev (fun k => impl_WaitsOk.f k m l) (wOk m l) := by
  unfold impl_WaitsOk.f
  exact Ev.bind (areWaits m l hm hl) (Ev.now _)
end Go.Proofs.Ytbnkiikpolcpkaa.Wo
