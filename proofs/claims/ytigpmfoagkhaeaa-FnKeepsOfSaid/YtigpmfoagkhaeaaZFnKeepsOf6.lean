/- FnKeepsOf: for every input the law holds. No condition. -/
import Derived.Test.YtigpmfoagkhaeaaZFnKeepsOf1
import Derived.Test.YtigpmfoagkhaeaaZFnKeepsOf2
import Derived.Test.YtigpmfoagkhaeaaZFnKeepsOf3
import Derived.Test.YtigpmfoagkhaeaaZFnKeepsOf4
import Derived.Test.YtigpmfoagkhaeaaZFnKeepsOf5
import Derived.Below
import Derived.Deep.Draws
import Derived.Deep.AppendLies
import Derived.Maps.AppendAt
import Derived.OwnWalk
import Derived.Laws.BytesArg
import Derived.Laws.MakeOwn
import Derived.Laws.OwnMore
import Derived.Deep.OwnRows
import Derived.Tactics
import Derived.Lib.ConvBytes
import Derived.Laws.Slices
import Derived.WalkKit
import Derived.KernelRfl
import Derived.RowKit3
import Derived.Deep.LoopGhost
import Derived.Deep.QuietTactic
import Derived.BigQuiet
import Derived.WideLaws
import Derived.Deep.DeepCutAuto
import Derived.Deep.CutBlock
import Derived.Deep.RegionHeld3
import Derived.Laws.Rows
import Derived.Lib.AppendStr
import Derived.ArgAppend
import Derived.Laws.IdiomCopy
import Derived.RowKit
import Derived.OrdersHeld
import Derived.Laws.BitsLemmas
import Derived.Laws.StructEq
import Derived.Test.YtigpmfoagkhaeaaProg
import Derived.SizedLaws
import Derived.ChangeSlices
import Derived.Test.YtigpmfoagkhaeaaRows
import Derived.ProofKit
import Derived.OpenShut
import Derived.ShutString
import Derived.ChangeOld
namespace Go.Proofs.Ytigpmfoagkhaeaa.Bk
open Go.RowKit Go.Proofs.Ytigpmfoagkhaeaa.PU Go.Proofs.Ytigpmfoagkhaeaa.Qh Go.Proofs.YtigpmfoagkhaeaaW.PrintWords Go.Proofs.YtigpmfoagkhaeaaW.PrintMore
set_option linter.unusedVariables false
set_option linter.unusedSimpArgs false
def RowP (c : List Int) (d : List (List Int)) (i : Nat) : Prop :=
  0 ≤ rd c (i : Int) ∧ rd c (i : Int) ≤ 20 ∧ (rd_L2 d (i : Int)).length = c.length ∧ rd (rd_L2 d (i : Int)) (i : Int) = 0 ∧ ∀ j : Nat, j < c.length → 0 ≤ rd (rd_L2 d (i : Int)) (j : Int) ∧ rd (rd_L2 d (i : Int)) (j : Int) ≤ 9
def BookP (c : List Int) (d : List (List Int)) : Prop := 1 ≤ c.length ∧ c.length ≤ 4 ∧ d.length = c.length ∧ ∀ i : Nat, i < c.length → RowP c d i
theorem ib_l1 (c : List Int) (d : List (List Int)) (row : List Int) (x3 : Int) (i : Nat) (hrow : row.length ≤ 4) (hi : i < d.length) (hd : d.length ≤ 4) {R : Prop}
    (hR : EvB (fun k => impl_isBook.l0 k x3 d (d.length : Int) ((i + 1 : Nat) : Int) c d) R) : ∀ (e j : Nat), row.length - j = e → j ≤ row.length →
    EvB (fun k => impl_isBook.l1 k x3 d (d.length : Int) (i : Int) row (row.length : Int) (j : Int) c d) ((∀ j' : Nat, j ≤ j' → j' < row.length → 0 ≤ rd row (j' : Int) ∧ rd row (j' : Int) ≤ 9) ∧ R) := by
  have hs : wrap64 ((i : Int) + 1) = ((i + 1 : Nat) : Int) := wsucc hi (by omega)
  intro e
  induction e with
  | zero =>
    intro j he hj
    refine EvB.step (fun k => by rw [impl_isBook.l1]) ?_
    rw [hs]
    exact EvB.neg (by omega) (hR.congr ⟨fun h => ⟨fun j' h1 h2 => by omega, h⟩, fun h => h.2⟩)
  | succ e ih =>
    intro j he hj
    have hlt : j < row.length := by omega
    have hj1 : wrap64 ((j : Int) + 1) = ((j + 1 : Nat) : Int) := wsucc hlt (by omega)
    refine EvB.step (fun k => by rw [impl_isBook.l1]) ?_
    refine EvB.pos (by omega) (EvB.pos (by omega) (EvB.pos (by omega) ?_))
    by_cases h1 : rd row (j : Int) < 0
    · exact EvB.pos h1 (EvB.ff (fun h => by have := h.1 j (Nat.le_refl _) hlt; omega))
    · refine EvB.neg h1 ?_
      by_cases h2 : rd row (j : Int) > 9
      · exact EvB.pos h2 (EvB.ff (fun h => by have := h.1 j (Nat.le_refl _) hlt; omega))
      · refine EvB.neg h2 ?_
        rw [hj1]
        refine (ih (j + 1) (by omega) (by omega)).congr ⟨fun h => ⟨fun j' h3 h4 => ?_, h.2⟩, fun h => ⟨fun j' h3 h4 => h.1 j' (by omega) h4, h.2⟩⟩
        by_cases e' : j' = j
        · subst e'; exact ⟨by omega, by omega⟩
        · exact h.1 j' (by omega) h4
theorem ib_l0 (c : List Int) (d : List (List Int)) (h4 : c.length ≤ 4) (hl : d.length = c.length) : ∀ (e i : Nat), c.length - i = e → i ≤ c.length →
    EvB (fun k => impl_isBook.l0 k (c.length : Int) d (d.length : Int) (i : Int) c d) (∀ i' : Nat, i ≤ i' → i' < c.length → RowP c d i') := by
  intro e
  induction e with
  | zero =>
    intro i he hi
    refine EvB.step (fun k => by rw [impl_isBook.l0]) ?_
    exact EvB.neg (by omega) (EvB.tt (fun i' h1 h2 => by omega))
  | succ e ih =>
    intro i he hi
    have hlt : i < c.length := by omega
    refine EvB.step (fun k => by rw [impl_isBook.l0]) ?_
    refine EvB.pos (by omega) (EvB.pos (by omega) (EvB.pos (by omega) (EvB.pos (by omega) ?_)))
    have bad : ∀ (P : Prop), (P → ¬ RowP c d i) → P → EvB (fun k => impl_isBook.j2 k (c.length : Int) (rd_L2 d (i : Int)) d (d.length : Int) (i : Int) true c d) (∀ i' : Nat, i ≤ i' → i' < c.length → RowP c d i') := by
      intro P hP p
      refine EvB.step (fun k => by rw [impl_isBook.j2]) ?_
      exact EvB.pos rfl (EvB.ff (fun h => hP p (h i (Nat.le_refl _) hlt)))
    by_cases h1 : rd c (i : Int) < 0
    · exact EvB.pos h1 (bad _ (fun p h => by have := h.1; omega) h1)
    refine EvB.neg h1 ?_
    by_cases h2 : rd c (i : Int) > 20
    · exact EvB.pos h2 (bad _ (fun p h => by have := h.2.1; omega) h2)
    refine EvB.neg h2 ?_
    by_cases h3 : ((rd_L2 d (i : Int)).length : Int) = (c.length : Int)
    · refine EvB.pos h3 (EvB.pos (by omega) ?_)
      by_cases h5 : rd (rd_L2 d (i : Int)) (i : Int) = 0
      · refine EvB.step (fun k => by rw [impl_isBook.j2]) ?_
        refine EvB.neg (by rw [h5]; decide) ?_
        refine (ib_l1 c d (rd_L2 d (i : Int)) (c.length : Int) i (by omega) (by omega) (by omega) (ih (i + 1) (by omega) (by omega)) _ 0 rfl (by omega)).congr ?_
        constructor
        · intro h i' h6 h7
          by_cases e' : i' = i
          · subst e'; exact ⟨by omega, by omega, by omega, h5, fun j hj => h.1 j (by omega) (by omega)⟩
          · exact h.2 i' (by omega) h7
        · intro h
          have hr := h i (Nat.le_refl _) hlt
          exact ⟨fun j' _ h7 => hr.2.2.2.2 j' (by omega), fun i' h6 h7 => h i' (by omega) h7⟩
      · have hb : (rd (rd_L2 d (i : Int)) (i : Int) != 0) = true := bne_iff_ne.mpr h5
        rw [hb]
        exact bad _ (fun p h => p h.2.2.2.1) h5
    · exact EvB.neg h3 (bad _ (fun p h => p (by rw [h.2.2.1])) h3)
theorem isBook (c : List Int) (d : List (List Int)) : EvB (fun k => impl_isBook.f k c d) (BookP c d) := by
  unfold impl_isBook.f
  by_cases h1 : (c.length : Int) < 1
  · refine EvB.pos h1 (EvB.step (fun k => by rw [impl_isBook.j0]) ?_)
    exact EvB.pos rfl (EvB.ff (fun h => by have := h.1; omega))
  refine EvB.neg h1 ?_
  by_cases h2 : (c.length : Int) > 4
  · refine EvB.pos h2 (EvB.step (fun k => by rw [impl_isBook.j0]) ?_)
    exact EvB.pos rfl (EvB.ff (fun h => by have := h.2.1; omega))
  refine EvB.neg h2 (EvB.step (fun k => by rw [impl_isBook.j0]) ?_)
  by_cases h3 : d.length = c.length
  · refine EvB.neg (by rw [h3]; simp) ?_
    refine (ib_l0 c d (by omega) h3 _ 0 rfl (by omega)).congr ⟨fun h => ⟨by omega, by omega, h3, fun i hi => h i (by omega) hi⟩, fun h i _ hi => h.2.2.2 i hi⟩
  · exact EvB.pos (bne_iff_ne.mpr (by omega)) (EvB.ff (fun h => h3 h.2.2.1))
theorem sIn (a lo hi : Int) : spec_l1In.f a lo hi = some (decide (lo ≤ a ∧ a ≤ hi)) := by
  unfold spec_l1In.f
  by_cases h : a ≥ lo
  · rw [if_pos h]; simp [h]
  · rw [if_neg h]; congr 1; symm; exact decide_eq_false (fun h' => h h'.1)
theorem sb_l1 (c : List Int) (d : List (List Int)) (i : Nat) (hrow : (rd_L2 d (i : Int)).length ≤ 4) (hi : i < d.length) (hd : d.length ≤ 4) {R : Prop}
    (hR : EvB (fun k => spec_BookOk.l0 k ((i + 1 : Nat) : Int) c d) R) : ∀ (e j : Nat), (rd_L2 d (i : Int)).length - j = e → j ≤ (rd_L2 d (i : Int)).length →
    EvB (fun k => spec_BookOk.l1 k (i : Int) (j : Int) c d) ((∀ j' : Nat, j ≤ j' → j' < (rd_L2 d (i : Int)).length → 0 ≤ rd (rd_L2 d (i : Int)) (j' : Int) ∧ rd (rd_L2 d (i : Int)) (j' : Int) ≤ 9) ∧ R) := by
  have hs : wrap64 ((i : Int) + 1) = ((i + 1 : Nat) : Int) := wsucc hi (by omega)
  intro e
  induction e with
  | zero =>
    intro j he hj
    refine EvB.step (fun k => by rw [spec_BookOk.l1]) ?_
    rw [hs]
    exact EvB.pos (by omega) (EvB.pos (by omega) (EvB.neg (by omega) (hR.congr ⟨fun h => ⟨fun j' h1 h2 => by omega, h⟩, fun h => h.2⟩)))
  | succ e ih =>
    intro j he hj
    have hlt : j < (rd_L2 d (i : Int)).length := by omega
    have hj1 : wrap64 ((j : Int) + 1) = ((j + 1 : Nat) : Int) := wsucc hlt (by omega)
    refine EvB.step (fun k => by rw [spec_BookOk.l1]) ?_
    refine EvB.pos (by omega) (EvB.pos (by omega) (EvB.pos (by omega) (EvB.pos (by omega) (EvB.bind0 (sIn _ _ _) ?_))))
    by_cases h1 : 0 ≤ rd (rd_L2 d (i : Int)) (j : Int) ∧ rd (rd_L2 d (i : Int)) (j : Int) ≤ 9
    · refine EvB.pos (decide_eq_true h1) ?_
      rw [hj1]
      refine (ih (j + 1) (by omega) (by omega)).congr ⟨fun h => ⟨fun j' h3 h4 => ?_, h.2⟩, fun h => ⟨fun j' h3 h4 => h.1 j' (by omega) h4, h.2⟩⟩
      by_cases e' : j' = j
      · subst e'; exact h1
      · exact h.1 j' (by omega) h4
    · exact EvB.neg (by simpa using h1) (EvB.ff (fun h => h1 (h.1 j (Nat.le_refl _) hlt)))
theorem sb_l0 (c : List Int) (d : List (List Int)) (h4 : c.length ≤ 4) (hl : d.length = c.length) : ∀ (e i : Nat), c.length - i = e → i ≤ c.length →
    EvB (fun k => spec_BookOk.l0 k (i : Int) c d) (∀ i' : Nat, i ≤ i' → i' < c.length → RowP c d i') := by
  intro e
  induction e with
  | zero =>
    intro i he hi
    refine EvB.step (fun k => by rw [spec_BookOk.l0]) ?_
    exact EvB.neg (by omega) (EvB.tt (fun i' h1 h2 => by omega))
  | succ e ih =>
    intro i he hi
    have hlt : i < c.length := by omega
    refine EvB.step (fun k => by rw [spec_BookOk.l0]) ?_
    refine EvB.pos (by omega) (EvB.pos (by omega) (EvB.bind0 (sIn _ _ _) ?_))
    have bad : ∀ (P : Prop), (P → ¬ RowP c d i) → P → EvB (fun k => spec_BookOk.j2 k (i : Int) true c d) (∀ i' : Nat, i ≤ i' → i' < c.length → RowP c d i') := by
      intro P hP p
      refine EvB.step (fun k => by rw [spec_BookOk.j2]) ?_
      exact EvB.pos rfl (EvB.ff (fun h => hP p (h i (Nat.le_refl _) hlt)))
    by_cases h1 : 0 ≤ rd c (i : Int) ∧ rd c (i : Int) ≤ 20
    · refine EvB.pos (decide_eq_true h1) (EvB.pos (by omega) ?_)
      by_cases h3 : ((rd_L2 d (i : Int)).length : Int) = (c.length : Int)
      · refine EvB.pos h3 (EvB.pos (by omega) ?_)
        by_cases h5 : rd (rd_L2 d (i : Int)) (i : Int) = 0
        · refine EvB.step (fun k => by rw [spec_BookOk.j2]) ?_
          refine EvB.neg (by rw [h5]; decide) ?_
          refine (sb_l1 c d i (by omega) (by omega) (by omega) (ih (i + 1) (by omega) (by omega)) _ 0 rfl (by omega)).congr ?_
          constructor
          · intro h i' h6 h7
            by_cases e' : i' = i
            · subst e'; exact ⟨h1.1, h1.2, by omega, h5, fun j hj => h.1 j (by omega) (by omega)⟩
            · exact h.2 i' (by omega) h7
          · intro h
            have hr := h i (Nat.le_refl _) hlt
            exact ⟨fun j' _ h7 => hr.2.2.2.2 j' (by omega), fun i' h6 h7 => h i' (by omega) h7⟩
        · have hb : (rd (rd_L2 d (i : Int)) (i : Int) != 0) = true := bne_iff_ne.mpr h5
          rw [hb]
          exact bad _ (fun p h => p h.2.2.2.1) h5
      · exact EvB.neg h3 (bad _ (fun p h => p (by rw [h.2.2.1])) h3)
    · exact EvB.neg (by simpa using h1) (bad _ (fun p h => p ⟨h.1, h.2.1⟩) h1)
theorem bookOk (c : List Int) (d : List (List Int)) : EvB (fun k => spec_BookOk.f k c d) (BookP c d) := by
  unfold spec_BookOk.f
  refine EvB.bind0 (sIn _ _ _) ?_
  by_cases h1 : 1 ≤ (c.length : Int) ∧ (c.length : Int) ≤ 4
  · refine EvB.pos (decide_eq_true h1) (EvB.step (fun k => by rw [spec_BookOk.j0]) ?_)
    by_cases h3 : d.length = c.length
    · refine EvB.neg (by rw [h3]; simp) ?_
      refine (sb_l0 c d (by omega) h3 _ 0 rfl (by omega)).congr ⟨fun h => ⟨by omega, by omega, h3, fun i hi => h i (by omega) hi⟩, fun h i _ hi => h.2.2.2 i hi⟩
    · exact EvB.pos (bne_iff_ne.mpr (by omega)) (EvB.ff (fun h => h3 h.2.2.1))
  · refine EvB.neg (by simpa using h1) (EvB.step (fun k => by rw [spec_BookOk.j0]) ?_)
    exact EvB.pos rfl (EvB.ff (fun h => h1 ⟨by have := h.1; omega, by have := h.2.1; omega⟩))
end Go.Proofs.Ytigpmfoagkhaeaa.Bk
namespace Go.Proofs.Ytigpmfoagkhaeaa.Ow
open Go.RowKit Go.Proofs.Ytigpmfoagkhaeaa.PU Go.Proofs.Ytigpmfoagkhaeaa.Qh Go.Proofs.Ytigpmfoagkhaeaa.Bk Go.Proofs.YtigpmfoagkhaeaaW.PrintWords Go.Proofs.YtigpmfoagkhaeaaW.PrintMore
set_option linter.unusedVariables false
set_option linter.unusedSimpArgs false
def sm (xs : List Int) : Nat → Int
  | 0 => 0
  | i + 1 => sm xs i + rd xs (i : Int)
def ow (c : List Int) (d : List (List Int)) (i : Nat) : Int := sm (rd_L2 d (i : Int)) c.length
def owes (c : List Int) (d : List (List Int)) : List Int := (List.range c.length).map (ow c d)
theorem owes_len (c : List Int) (d : List (List Int)) : (owes c d).length = c.length := by simp [owes]
theorem rd_owes {c : List Int} {d : List (List Int)} {i : Nat} (hi : i < c.length) : rd (owes c d) (i : Int) = ow c d i := by
  rw [rd_get _ _ (by rw [owes_len]; exact hi)]; simp [owes]
theorem sm_bd {c : List Int} {d : List (List Int)} (h : BookP c d) {i : Nat} (hi : i < c.length) : ∀ j : Nat, j ≤ c.length → 0 ≤ sm (rd_L2 d (i : Int)) j ∧ sm (rd_L2 d (i : Int)) j ≤ 9 * j
  | 0, _ => by simp [sm]
  | j + 1, hj => by
    have := sm_bd h hi j (by omega)
    have := (h.2.2.2 i hi).2.2.2.2 j (by omega)
    simp only [sm]; omega
theorem ow_bd {c : List Int} {d : List (List Int)} (h : BookP c d) {i : Nat} (hi : i < c.length) : 0 ≤ ow c d i ∧ ow c d i ≤ 36 := by
  have := sm_bd h hi c.length (Nat.le_refl _); have := h.2.1; unfold ow; omega
def mid (c : List Int) (d : List (List Int)) (i : Nat) (s : Int) : List Int := (List.range c.length).map (fun k => if k < i then ow c d k else if k = i then s else 0)
theorem mid_len (c : List Int) (d : List (List Int)) (i : Nat) (s : Int) : (mid c d i s).length = c.length := by simp [mid]
theorem mid_get {c : List Int} {d : List (List Int)} {i : Nat} {s : Int} (hi : i < c.length) : rd (mid c d i s) (i : Int) = s := by
  rw [rd_get _ _ (by rw [mid_len]; exact hi)]; simp [mid]
theorem mid_set {c : List Int} {d : List (List Int)} {i : Nat} {s v : Int} (hi : i < c.length) : (mid c d i s).set ((i : Int)).toNat v = mid c d i v := by
  apply List.ext_getElem (by simp [mid])
  intro k h1 h2
  simp only [mid, List.getElem_set, List.getElem_map, List.getElem_range, Int.toNat_natCast]
  by_cases e : i = k
  · subst e; simp
  · rw [if_neg e]
    by_cases e2 : k < i
    · simp [e2]
    · simp [e2, Ne.symm e, show ¬ k = i from fun h => e h.symm]
theorem mid_next {c : List Int} {d : List (List Int)} (i : Nat) : mid c d i (ow c d i) = mid c d (i + 1) 0 := by
  unfold mid
  apply List.map_congr_left
  intro k _
  by_cases e : k < i
  · simp [e, show k < i + 1 by omega]
  · by_cases e2 : k = i
    · subst e2; simp
    · simp [e, e2, show ¬ k < i + 1 by omega]
theorem mid_start (c : List Int) (d : List (List Int)) : List.replicate c.length (0 : Int) = mid c d 0 0 := by
  apply List.ext_getElem (by simp [mid])
  intro k h1 h2
  simp [mid]
theorem mid_end (c : List Int) (d : List (List Int)) : mid c d c.length 0 = owes c d := by
  unfold mid owes
  apply List.map_congr_left
  intro k hk
  simp [List.mem_range.mp hk]
theorem io_l1 {c : List Int} {d : List (List Int)} (h : BookP c d) {i : Nat} (hi : i < c.length) {r : List Int} (hR : Ev (fun k => impl_owes.l0 k (mid c d (i + 1) 0) d (d.length : Int) ((i + 1 : Nat) : Int)) r) :
    ∀ (e j : Nat), c.length - j = e → j ≤ c.length → Ev (fun k => impl_owes.l1 k (mid c d i (sm (rd_L2 d (i : Int)) j)) (i : Int) d (d.length : Int) (i : Int) (rd_L2 d (i : Int)) ((rd_L2 d (i : Int)).length : Int) (j : Int)) r := by
  have h4 := h.2.1
  have hdl := h.2.2.1
  have hrl := (h.2.2.2 i hi).2.2.1
  have hs : wrap64 ((i : Int) + 1) = ((i + 1 : Nat) : Int) := wsucc hi (by omega)
  intro e
  induction e with
  | zero =>
    intro j he hj
    obtain rfl : j = c.length := by omega
    refine Ev.step (fun k => by rw [impl_owes.l1]) ?_
    rw [hs]
    refine evNeg (by omega) ?_
    have : mid c d i (sm (rd_L2 d (i : Int)) c.length) = mid c d (i + 1) 0 := mid_next i
    rw [this]
    exact hR
  | succ e ih =>
    intro j he hj
    have hlt : j < c.length := by omega
    have hj1 : wrap64 ((j : Int) + 1) = ((j + 1 : Nat) : Int) := wsucc hlt (by omega)
    have hb := sm_bd h hi j (by omega)
    have hx := (h.2.2.2 i hi).2.2.2.2 j hlt
    have hw : wrap64 (sm (rd_L2 d (i : Int)) j + rd (rd_L2 d (i : Int)) (j : Int)) = sm (rd_L2 d (i : Int)) (j + 1) := by rw [w64 (by omega) (by omega)]; rfl
    have hml := mid_len c d i (sm (rd_L2 d (i : Int)) j)
    refine Ev.step (fun k => by rw [impl_owes.l1]) ?_
    refine evPos (by omega) (evPos (by omega) (evPos (by omega) (evPos (by omega) (evPos (by omega) ?_))))
    rw [mid_get hi, hw, hj1, mid_set hi]
    exact ih (j + 1) (by omega) (by omega)
theorem io_l0 {c : List Int} {d : List (List Int)} (h : BookP c d) : ∀ (e i : Nat), c.length - i = e → i ≤ c.length → Ev (fun k => impl_owes.l0 k (mid c d i 0) d (d.length : Int) (i : Int)) (owes c d) := by
  have hdl := h.2.2.1
  intro e
  induction e with
  | zero =>
    intro i he hi
    obtain rfl : i = c.length := by omega
    refine Ev.step (fun k => by rw [impl_owes.l0]) ?_
    exact evNeg (by omega) (evEq (Ev.now _) (mid_end c d))
  | succ e ih =>
    intro i he hi
    refine Ev.step (fun k => by rw [impl_owes.l0]) ?_
    refine evPos (by omega) (evPos (by omega) (evPos (by omega) ?_))
    exact io_l1 h (by omega) (ih (i + 1) (by omega) (by omega)) _ 0 rfl (by omega)
theorem iowes {c : List Int} {d : List (List Int)} (h : BookP c d) : Ev (fun k => impl_owes.f k c d) (owes c d) := by
  have h4 := h.2.1
  unfold impl_owes.f
  refine evPos (by omega) (evPos (by omega) ?_)
  rw [Int.toNat_natCast, mid_start c d]
  exact io_l0 h _ 0 rfl (by omega)
theorem so_l1 {c : List Int} {d : List (List Int)} (h : BookP c d) {i : Nat} (hi : i < c.length) {x : List Int} (hx : x.length ≤ 4) {r : List Int} (hR : Ev (fun k => spec_OwesOf.l0 k (x ++ [ow c d i]) ((i + 1 : Nat) : Int) c d) r) :
    ∀ (e j : Nat), c.length - j = e → j ≤ c.length → Ev (fun k => spec_OwesOf.l1 k x (i : Int) (sm (rd_L2 d (i : Int)) j) (j : Int) c d) r := by
  have h4 := h.2.1
  have hdl := h.2.2.1
  have hrl := (h.2.2.2 i hi).2.2.1
  have hs : wrap64 ((i : Int) + 1) = ((i + 1 : Nat) : Int) := wsucc hi (by omega)
  intro e
  induction e with
  | zero =>
    intro j he hj
    obtain rfl : j = c.length := by omega
    refine Ev.step (fun k => by rw [spec_OwesOf.l1]) ?_
    rw [hs]
    exact evNeg (by omega) (evPos (by omega) hR)
  | succ e ih =>
    intro j he hj
    have hlt : j < c.length := by omega
    have hj1 : wrap64 ((j : Int) + 1) = ((j + 1 : Nat) : Int) := wsucc hlt (by omega)
    have hb := sm_bd h hi j (by omega)
    have hx := (h.2.2.2 i hi).2.2.2.2 j hlt
    have hw : wrap64 (sm (rd_L2 d (i : Int)) j + rd (rd_L2 d (i : Int)) (j : Int)) = sm (rd_L2 d (i : Int)) (j + 1) := by rw [w64 (by omega) (by omega)]; rfl
    refine Ev.step (fun k => by rw [spec_OwesOf.l1]) ?_
    refine evPos (by omega) (evPos (by omega) (evPos (by omega) (evPos (by omega) (evPos (by omega) ?_))))
    rw [hw, hj1]
    exact ih (j + 1) (by omega) (by omega)
theorem so_l0 {c : List Int} {d : List (List Int)} (h : BookP c d) : ∀ (e i : Nat), c.length - i = e → i ≤ c.length → Ev (fun k => spec_OwesOf.l0 k ((List.range i).map (ow c d)) (i : Int) c d) (owes c d) := by
  have h4 := h.2.1
  intro e
  induction e with
  | zero =>
    intro i he hi
    obtain rfl : i = c.length := by omega
    refine Ev.step (fun k => by rw [spec_OwesOf.l0]) ?_
    refine evNeg (by omega) (Ev.step (fun k => by rw [spec_OwesOf.j1]) ?_)
    exact evNeg (by decide) (Ev.now _)
  | succ e ih =>
    intro i he hi
    refine Ev.step (fun k => by rw [spec_OwesOf.l0]) ?_
    refine evPos (by omega) (Ev.bind ((bookOk c d).yes h) (Ev.step (fun k => by rw [spec_OwesOf.j1]) ?_))
    refine evPos rfl ?_
    have hi' := ih (i + 1) (by omega) (by omega)
    rw [List.range_succ, List.map_append] at hi'
    exact so_l1 h (by omega) (by simp; omega) hi' _ 0 rfl (by omega)
theorem sowes {c : List Int} {d : List (List Int)} (h : BookP c d) : Ev (fun k => spec_OwesOf.f k c d) (owes c d) := by
  unfold spec_OwesOf.f
  exact so_l0 h _ 0 rfl (by omega)
theorem sowes_no {c : List Int} {d : List (List Int)} (h : ¬ BookP c d) : Ev (fun k => spec_OwesOf.f k c d) [] := by
  unfold spec_OwesOf.f
  refine Ev.step (fun k => by rw [spec_OwesOf.l0]) ?_
  by_cases h0 : (0 : Int) < (c.length : Int)
  · refine evPos h0 (Ev.bind ((bookOk c d).no h) (Ev.step (fun k => by rw [spec_OwesOf.j1]) ?_))
    exact evNeg (by decide) (Ev.now _)
  · refine evNeg h0 (Ev.step (fun k => by rw [spec_OwesOf.j1]) ?_)
    exact evNeg (by decide) (Ev.now _)
end Go.Proofs.Ytigpmfoagkhaeaa.Ow
namespace Go.Proofs.Ytigpmfoagkhaeaa.Fr
open Go.RowKit Go.Proofs.Ytigpmfoagkhaeaa.PU Go.Proofs.Ytigpmfoagkhaeaa.Qh Go.Proofs.YtigpmfoagkhaeaaW.PrintWords Go.Proofs.YtigpmfoagkhaeaaW.PrintMore
set_option linter.unusedVariables false
set_option linter.unusedSimpArgs false
def FracP (u d : Int) : Prop := -1000000000 ≤ u ∧ u ≤ 1000000000 ∧ 1 ≤ d ∧ d ≤ 1000000000 ∧ Int.gcd u d = 1
instance (u d : Int) : Decidable (FracP u d) := by unfold FracP; infer_instance
theorem gcd_tmod (a b : Int) : Int.gcd b (Int.tmod a b) = Int.gcd a b := by
  unfold Int.gcd
  rw [Int.natAbs_tmod, Nat.gcd_comm b.natAbs, ← Nat.gcd_rec b.natAbs a.natAbs, Nat.gcd_comm]
theorem tmod_lt (a b : Int) (hb : b ≠ 0) : (Int.tmod a b).natAbs < b.natAbs := by
  rw [Int.natAbs_tmod]; exact Nat.mod_lt _ (by omega)
theorem igcd_l : ∀ (n : Nat) (a b : Int), b.natAbs ≤ n → a.natAbs ≤ 9223372036854775807 → b.natAbs ≤ 9223372036854775807 → Ev (fun k => impl_gcd.l0 k a b) ((Int.gcd a b : Nat) : Int) := by
  intro n
  induction n with
  | zero =>
    intro a b hn ha hb
    obtain rfl : b = 0 := by omega
    refine Ev.step (fun k => by rw [impl_gcd.l0]) ?_
    refine evPos rfl ?_
    have e : mx a (wrap64 (-a)) = ((Int.gcd a 0 : Nat) : Int) := by
      rw [w64 (by omega) (by omega), Int.gcd_zero_right]
      unfold mx
      split <;> omega
    rw [e]
    exact Ev.now _
  | succ n ih =>
    intro a b hn ha hb
    by_cases h0 : b = 0
    · exact ih a b (by omega) ha hb
    · refine Ev.step (fun k => by rw [impl_gcd.l0]) ?_
      refine evNeg h0 ?_
      have hlt := tmod_lt a b h0
      rw [← gcd_tmod a b]
      exact ih b (Int.tmod a b) (by omega) hb (by omega)
theorem igcd (a b : Int) (ha : a.natAbs ≤ 9223372036854775807) (hb : b.natAbs ≤ 9223372036854775807) : Ev (fun k => impl_gcd.f k a b) ((Int.gcd a b : Nat) : Int) := by
  unfold impl_gcd.f
  exact igcd_l b.natAbs a b (Nat.le_refl _) ha hb
theorem sdiv_l : ∀ (n : Nat) (a b : Int), b.natAbs ≤ n → 0 ≤ a → 0 ≤ b → Ev (fun k => spec_l1Divisor.l0 k a b) ((Int.gcd a b : Nat) : Int) := by
  intro n
  induction n with
  | zero =>
    intro a b hn ha hb
    obtain rfl : b = 0 := by omega
    refine Ev.step (fun k => by rw [spec_l1Divisor.l0]) ?_
    refine evNeg (by omega) ?_
    refine evEq (Ev.now _) ?_
    rw [Int.gcd_zero_right]; omega
  | succ n ih =>
    intro a b hn ha hb
    by_cases h0 : b = 0
    · exact ih a b (by omega) ha hb
    · refine Ev.step (fun k => by rw [spec_l1Divisor.l0]) ?_
      refine evPos (by omega) (evNeg h0 ?_)
      have hlt := tmod_lt a b h0
      rw [← gcd_tmod a b]
      exact ih b (Int.tmod a b) (by omega) hb (Int.tmod_nonneg b ha)
theorem sabs (a : Int) (ha : a.natAbs ≤ 9223372036854775807) : spec_l1Abs.f a = some ((a.natAbs : Nat) : Int) := by
  unfold spec_l1Abs.f
  by_cases h : a < 0
  · rw [if_pos h, w64 (by omega) (by omega)]; congr 1; omega
  · rw [if_neg h]; congr 1; omega
theorem sdiv (a b : Int) (ha : a.natAbs ≤ 9223372036854775807) (hb : b.natAbs ≤ 9223372036854775807) : Ev (fun k => spec_l1Divisor.f k a b) ((Int.gcd a b : Nat) : Int) := by
  unfold spec_l1Divisor.f
  refine evBind0 (sabs a ha) (evBind0 (sabs b hb) ?_)
  have e : Int.gcd (a.natAbs : Int) (b.natAbs : Int) = Int.gcd a b := by unfold Int.gcd; simp
  rw [← e]
  exact sdiv_l _ _ _ (Nat.le_refl _) (by omega) (by omega)
theorem isFrac (u d : Int) : EvB (fun k => impl_isFrac.f k u d) (FracP u d) := by
  unfold impl_isFrac.f
  by_cases h1 : u ≥ -1000000000
  · by_cases h2 : u ≤ 1000000000
    · refine EvB.bind0 (a := true) (by unfold impl_isNumber.f; rw [if_pos h1]; simp [h2]) (EvB.pos rfl ?_)
      by_cases h3 : d ≥ 1
      · refine EvB.pos h3 ?_
        by_cases h4 : d ≤ 1000000000
        · refine EvB.pos h4 (EvB.bind (igcd u d (by omega) (by omega)) ⟨_, ?_, Ev.now _⟩)
          unfold FracP
          constructor
          · intro h; have := beq_iff_eq.mp h; exact ⟨h1, h2, h3, h4, by omega⟩
          · intro h; exact beq_iff_eq.mpr (by have := h.2.2.2.2; omega)
        · exact EvB.neg h4 (EvB.ff (fun h => h4 h.2.2.2.1))
      · exact EvB.neg h3 (EvB.ff (fun h => h3 h.2.2.1))
    · refine EvB.bind0 (a := false) (by unfold impl_isNumber.f; rw [if_pos h1]; simp [h2]) (EvB.neg (by decide) (EvB.ff (fun h => h2 h.2.1)))
  · refine EvB.bind0 (a := false) (by unfold impl_isNumber.f; rw [if_neg h1]) (EvB.neg (by decide) (EvB.ff (fun h => h1 h.1)))
theorem l1In (a lo hi : Int) : spec_l1In.f a lo hi = some (decide (lo ≤ a ∧ a ≤ hi)) := by
  unfold spec_l1In.f
  by_cases h : a ≥ lo
  · rw [if_pos h]; simp [h]
  · rw [if_neg h]; congr 1; symm; exact decide_eq_false (fun h' => h h'.1)
theorem fracOk (u d : Int) : EvB (fun k => spec_FracOk.f k u d) (FracP u d) := by
  unfold spec_FracOk.f
  refine EvB.bind0 (l1In _ _ _) ?_
  by_cases h1 : 1 ≤ d ∧ d ≤ 1000000000
  · refine EvB.pos (decide_eq_true h1) (EvB.bind0 (l1In _ _ _) ?_)
    by_cases h2 : -1000000000 ≤ u ∧ u ≤ 1000000000
    · refine EvB.pos (decide_eq_true h2) (EvB.bind (sdiv u d (by omega) (by omega)) ⟨_, ?_, Ev.now _⟩)
      unfold FracP
      constructor
      · intro h; have := beq_iff_eq.mp h; exact ⟨h2.1, h2.2, h1.1, h1.2, by omega⟩
      · intro h; exact beq_iff_eq.mpr (by have := h.2.2.2.2; omega)
    · exact EvB.neg (by simpa using h2) (EvB.ff (fun h => h2 ⟨h.1, h.2.1⟩))
  · exact EvB.neg (by simpa using h1) (EvB.ff (fun h => h1 ⟨h.2.2.1, h.2.2.2.1⟩))
def low (up down : Int) : Int × Int × Bool :=
  if FracP (Int.tdiv up (Int.gcd up down : Nat)) (Int.tdiv down (Int.gcd up down : Nat)) then (Int.tdiv up (Int.gcd up down : Nat), Int.tdiv down (Int.gcd up down : Nat), true) else (0, 0, false)
theorem gcd_pos {up down : Int} (hd : 0 < down) : 0 < Int.gcd up down := Nat.pos_of_ne_zero (fun h => by have := (Int.gcd_eq_zero_iff.mp h).2; omega)
theorem tdiv_natAbs (a : Int) (g : Nat) : (Int.tdiv a (g : Int)).natAbs ≤ a.natAbs := by
  rw [Int.natAbs_tdiv]; exact Nat.div_le_self _ _
theorem ilowest (up down : Int) (hd : 0 < down) (h1 : up.natAbs ≤ 4611686018427387904) (h2 : down.natAbs ≤ 4611686018427387904) : Ev (fun k => impl_lowest.f k up down) (low up down) := by
  unfold impl_lowest.f
  refine Ev.bind (igcd up down (by omega) (by omega)) ?_
  have hg := gcd_pos (up := up) hd
  have a1 := tdiv_natAbs up (Int.gcd up down)
  have a2 := tdiv_natAbs down (Int.gcd up down)
  have w1 : wrap64 (Int.tdiv up (Int.gcd up down : Nat)) = Int.tdiv up (Int.gcd up down : Nat) := w64 (by omega) (by omega)
  have w2 : wrap64 (Int.tdiv down (Int.gcd up down : Nat)) = Int.tdiv down (Int.gcd up down : Nat) := w64 (by omega) (by omega)
  refine evNeg (by omega) (evNeg (by omega) ?_)
  rw [w1, w2]
  obtain ⟨b, hb, he⟩ := isFrac (Int.tdiv up (Int.gcd up down : Nat)) (Int.tdiv down (Int.gcd up down : Nat))
  refine Ev.bind he ?_
  unfold low
  by_cases h : FracP (Int.tdiv up (Int.gcd up down : Nat)) (Int.tdiv down (Int.gcd up down : Nat))
  · rw [if_pos h]; exact evPos (hb.2 h) (Ev.now _)
  · rw [if_neg h]; exact evNeg (fun e => h (hb.1 e)) (Ev.now _)
theorem slow (up down : Int) (hd : 0 < down) (h1 : up.natAbs ≤ 4611686018427387904) (h2 : down.natAbs ≤ 4611686018427387904) : Ev (fun k => spec_l1Low.f k up down) (low up down) := by
  unfold spec_l1Low.f
  refine evNeg (by omega) ?_
  refine Ev.step (fun k => by rw [spec_l1Low.j0]) ?_
  refine Ev.bind (sdiv up down (by omega) (by omega)) ?_
  have hg := gcd_pos (up := up) hd
  have a1 := tdiv_natAbs up (Int.gcd up down)
  have a2 := tdiv_natAbs down (Int.gcd up down)
  have w1 : wrap64 (Int.tdiv up (Int.gcd up down : Nat)) = Int.tdiv up (Int.gcd up down : Nat) := w64 (by omega) (by omega)
  have w2 : wrap64 (Int.tdiv down (Int.gcd up down : Nat)) = Int.tdiv down (Int.gcd up down : Nat) := w64 (by omega) (by omega)
  refine evNeg (by omega) ?_
  rw [w1, w2]
  obtain ⟨b, hb, he⟩ := fracOk (Int.tdiv up (Int.gcd up down : Nat)) (Int.tdiv down (Int.gcd up down : Nat))
  refine Ev.bind he ?_
  unfold low
  by_cases h : FracP (Int.tdiv up (Int.gcd up down : Nat)) (Int.tdiv down (Int.gcd up down : Nat))
  · rw [if_pos h]; exact evPos (hb.2 h) (Ev.now _)
  · rw [if_neg h]; exact evNeg (fun e => h (hb.1 e)) (Ev.now _)
theorem low_val {up down p q : Int} (hd : 0 < down) (h : low up down = (p, q, true)) : FracP p q ∧ p * down = up * q := by
  unfold low at h
  split at h
  case isTrue hf =>
    simp only [Prod.mk.injEq, and_true] at h
    obtain ⟨rfl, rfl⟩ := h
    refine ⟨hf, ?_⟩
    have hg := gcd_pos (up := up) hd
    obtain ⟨s, hs⟩ : ((Int.gcd up down : Nat) : Int) ∣ up := Int.gcd_dvd_left ..
    obtain ⟨t, ht⟩ : ((Int.gcd up down : Nat) : Int) ∣ down := Int.gcd_dvd_right ..
    have hgi : ((Int.gcd up down : Nat) : Int) ≠ 0 := by omega
    have e1 : Int.tdiv up (Int.gcd up down : Nat) = s := by
      conv => lhs; arg 1; rw [hs]
      exact Int.mul_tdiv_cancel_left s hgi
    have e2 : Int.tdiv down (Int.gcd up down : Nat) = t := by
      conv => lhs; arg 1; rw [ht]
      exact Int.mul_tdiv_cancel_left t hgi
    rw [e1, e2]
    generalize ((Int.gcd up down : Nat) : Int) = g at hs ht
    subst hs; subst ht
    ac_rfl
  case isFalse => simp at h
theorem low_of {up down p q : Int} (hd : 0 < down) (hf : FracP p q) (e : p * down = up * q) : low up down = (p, q, true) := by
  have hq : 0 < q := by have := hf.2.2.1; omega
  have hdv : q ∣ down := by
    have h1 : q ∣ p * down := ⟨up, by rw [e, Int.mul_comm]⟩
    have h2 : q.natAbs ∣ p.natAbs * down.natAbs := by rw [← Int.natAbs_mul]; exact Int.natAbs_dvd_natAbs.mpr h1
    have hc : Nat.Coprime q.natAbs p.natAbs := by rw [Nat.coprime_comm]; exact hf.2.2.2.2
    exact Int.natAbs_dvd_natAbs.mp (Nat.Coprime.dvd_of_dvd_mul_left hc h2)
  obtain ⟨t, rfl⟩ := hdv
  have ht : 0 < t := by
    rcases Int.lt_or_le 0 t with h | h
    · exact h
    · have := Int.mul_nonpos_of_nonneg_of_nonpos (by omega : 0 ≤ q) h; omega
  have hu : up = p * t := by
    have : up * q = p * t * q := by rw [← e, Int.mul_comm q t, Int.mul_assoc]
    exact Int.eq_of_mul_eq_mul_right (by omega) this
  subst hu
  have hg : ((Int.gcd (p * t) (q * t) : Nat) : Int) = t := by
    rw [Int.gcd_mul_right, hf.2.2.2.2]; omega
  have h1 : Int.tdiv (p * t) (Int.gcd (p * t) (q * t) : Nat) = p := by rw [hg]; exact Int.mul_tdiv_cancel p (by omega)
  have h2 : Int.tdiv (q * t) (Int.gcd (p * t) (q * t) : Nat) = q := by rw [hg]; exact Int.mul_tdiv_cancel q (by omega)
  unfold low
  rw [h1, h2, if_pos hf]
end Go.Proofs.Ytigpmfoagkhaeaa.Fr
namespace Go.Proofs.Ytigpmfoagkhaeaa.PU
open Go.RowKit Go.Proofs.YtigpmfoagkhaeaaW.PrintWords Go.Proofs.YtigpmfoagkhaeaaW.PrintLast Go.Proofs.YtigpmfoagkhaeaaW.PrintMore Go.Proofs.Ytigpmfoagkhaeaa.Qd
attribute [local go_sem] max2_int min2_int max_two min_two max_three min_three max_four min_four
set_option linter.unusedVariables false
set_option linter.unusedSimpArgs false
end Go.Proofs.Ytigpmfoagkhaeaa.PU
namespace Go.Proofs.Ytigpmfoagkhaeaa.Py
open Go.RowKit Go.Proofs.Ytigpmfoagkhaeaa.PU Go.Proofs.Ytigpmfoagkhaeaa.Qh Go.Proofs.Ytigpmfoagkhaeaa.Bk Go.Proofs.Ytigpmfoagkhaeaa.Ow Go.Proofs.Ytigpmfoagkhaeaa.Fr Go.Proofs.YtigpmfoagkhaeaaW.PrintWords Go.Proofs.YtigpmfoagkhaeaaW.PrintMore
set_option linter.unusedVariables false
set_option linter.unusedSimpArgs false
abbrev fu (ps : List S36) (i : Nat) : Int := (rd_T36 ps (i : Int)).f0
abbrev fd (ps : List S36) (i : Nat) : Int := (rd_T36 ps (i : Int)).f1
def PayP (c : List Int) (d : List (List Int)) (ps : List S36) (i : Nat) : Prop := FracP (fu ps i) (fd ps i) ∧ 0 ≤ fu ps i ∧ fu ps i ≤ ow c d i * fd ps i
def PaysP (c : List Int) (d : List (List Int)) (ps : List S36) : Prop := BookP c d ∧ ps.length = c.length ∧ ∀ i : Nat, i < c.length → PayP c d ps i
theorem mul_bd {a b : Int} {m n : Nat} (ha : a.natAbs ≤ m) (hb : b.natAbs ≤ n) : (a * b).natAbs ≤ m * n := by
  rw [Int.natAbs_mul]; exact Nat.mul_le_mul ha hb
theorem wmul {a b : Int} (m n : Nat) (ha : a.natAbs ≤ m) (hb : b.natAbs ≤ n) (h : m * n ≤ 9223372036854775807) : wrap64 (a * b) = a * b := by
  have := mul_bd ha hb
  exact w64 (by omega) (by omega)
theorem cmp (x y : Int) : cmp_Compare_int.f x y = some (if x < y then -1 else if x > y then 1 else 0) := by
  unfold cmp_Compare_int.f cmp_isNaN_int.f
  simp only [bne_self_eq_false, Option.bind_some, Bool.false_eq_true, if_false]
  by_cases h : x < y
  · simp [h]
  · by_cases h2 : x > y
    · simp [h, h2]
    · simp [h, h2]
theorem icmp {a b p q : Int} (ha : FracP a b) (hp : p.natAbs ≤ 1000000000) (hq : q.natAbs ≤ 1000000000) : impl_compare.f a b p q = some (if a * q < p * b then -1 else if a * q > p * b then 1 else 0) := by
  have h1 := ha.1; have h2 := ha.2.1; have h3 := ha.2.2.1; have h4 := ha.2.2.2.1
  unfold impl_compare.f
  rw [wmul 1000000000 1000000000 (by omega) (by omega) (by omega), wmul 1000000000 1000000000 (by omega) (by omega) (by omega), cmp]
  rfl
theorem sbefore {a b p q : Int} (ha : FracP a b) (hp : FracP p q) : Ev (fun k => spec_BeforeOf.f k a b p q) (if a * q < p * b then -1 else if a * q > p * b then 1 else 0) := by
  have h1 := ha.1; have h2 := ha.2.1; have h3 := ha.2.2.1; have h4 := ha.2.2.2.1
  have g1 := hp.1; have g2 := hp.2.1; have g3 := hp.2.2.1; have g4 := hp.2.2.2.1
  unfold spec_BeforeOf.f
  refine Ev.bind ((fracOk a b).yes ha) (evPos rfl (Ev.bind ((fracOk p q).yes hp) (Ev.step (fun k => by rw [spec_BeforeOf.j0]) ?_)))
  rw [wmul 1000000000 1000000000 (by omega) (by omega) (by omega), wmul 1000000000 1000000000 (by omega) (by omega) (by omega)]
  refine evNeg (by decide) ?_
  by_cases h : a * q < p * b
  · simp only [if_pos h]; exact Ev.now _
  · simp only [if_neg h]
    by_cases h5 : a * q > p * b
    · simp only [if_pos h5]; exact Ev.now _
    · simp only [if_neg h5]; exact Ev.now _
theorem whole_ok {n : Int} (h0 : 0 ≤ n) (h1 : n ≤ 1000000000) : FracP n 1 := ⟨by omega, by omega, by omega, by omega, by simp⟩
theorem cmp_gt (x y : Int) : ((if x < y then (-1 : Int) else if x > y then 1 else 0) > 0) ↔ x > y := by
  by_cases h : x < y
  · rw [if_pos h]; omega
  · rw [if_neg h]
    by_cases h2 : x > y
    · rw [if_pos h2]; omega
    · rw [if_neg h2]; omega
theorem ip_l0 {c : List Int} {d : List (List Int)} (h : BookP c d) (ps : List S36) (hp : ps.length = c.length) : ∀ (e i : Nat), c.length - i = e → i ≤ c.length →
    EvB (fun k => impl_arePays.l0 k ps (owes c d) ((owes c d).length : Int) (i : Int)) (∀ i' : Nat, i ≤ i' → i' < c.length → PayP c d ps i') := by
  have h4 := h.2.1
  have hol := owes_len c d
  intro e
  induction e with
  | zero =>
    intro i he hi
    refine EvB.step (fun k => by rw [impl_arePays.l0]) ?_
    exact EvB.neg (by omega) (EvB.tt (fun i' h1 h2 => by omega))
  | succ e ih =>
    intro i he hi
    have hlt : i < c.length := by omega
    have hs : wrap64 ((i : Int) + 1) = ((i + 1 : Nat) : Int) := wsucc hlt (by omega)
    have hob := ow_bd h hlt
    refine EvB.step (fun k => by rw [impl_arePays.l0]) ?_
    refine EvB.pos (by omega) (EvB.pos (by omega) (EvB.pos (by omega) (EvB.pos (by omega) ?_)))
    obtain ⟨b, hb, hbe⟩ := isFrac (fu ps i) (fd ps i)
    refine EvB.bind hbe ?_
    by_cases h1 : FracP (fu ps i) (fd ps i)
    · refine EvB.pos (hb.2 h1) ?_
      by_cases h2 : fu ps i < 0
      · exact EvB.pos h2 (EvB.ff (fun h => by have := (h i (Nat.le_refl _) hlt).2.1; omega))
      · refine EvB.neg h2 ?_
        rw [rd_owes hlt]
        refine EvB.bind0 (a := (ow c d i, 1)) rfl ?_
        refine EvB.bind0 (icmp (p := ow c d i) (q := 1) h1 (by omega) (by decide)) ?_
        rw [hs]
        by_cases h3 : fu ps i * 1 > ow c d i * fd ps i
        · exact EvB.pos ((cmp_gt _ _).2 h3) (EvB.ff (fun h => by have := (h i (Nat.le_refl _) hlt).2.2; omega))
        · refine EvB.neg (fun h' => h3 ((cmp_gt _ _).1 h')) ?_
          refine (ih (i + 1) (by omega) (by omega)).congr ⟨fun h' i' h5 h6 => ?_, fun h' i' h5 h6 => h' i' (by omega) h6⟩
          by_cases e' : i' = i
          · subst e'; exact ⟨h1, by omega, by omega⟩
          · exact h' i' (by omega) h6
    · exact EvB.neg (fun h' => h1 (hb.1 h')) (EvB.ff (fun h => h1 (h i (Nat.le_refl _) hlt).1))
theorem arePays (c : List Int) (d : List (List Int)) (ps : List S36) : EvB (fun k => impl_arePays.f k c d ps) (PaysP c d ps) := by
  unfold impl_arePays.f
  obtain ⟨b, hb, hbe⟩ := isBook c d
  refine EvB.bind hbe ?_
  by_cases h : BookP c d
  · refine EvB.pos (hb.2 h) (EvB.step (fun k => by rw [impl_arePays.j0]) ?_)
    by_cases hp : ps.length = c.length
    · refine EvB.neg (by rw [hp]; simp) (EvB.bind (iowes h) ?_)
      exact (ip_l0 h ps hp _ 0 rfl (by omega)).congr ⟨fun h' => ⟨h, hp, fun i hi => h' i (by omega) hi⟩, fun h' i _ hi => h'.2.2 i hi⟩
    · exact EvB.pos (bne_iff_ne.mpr (by omega)) (EvB.ff (fun h' => hp h'.2.1))
  · refine EvB.neg (fun h' => h (hb.1 h')) (EvB.step (fun k => by rw [impl_arePays.j0]) ?_)
    exact EvB.pos rfl (EvB.ff (fun h' => h h'.1))
theorem sp_l0 {c : List Int} {d : List (List Int)} (h : BookP c d) (ps : List S36) (hp : ps.length = c.length) : ∀ (e i : Nat), c.length - i = e → i ≤ c.length →
    EvB (fun k => spec_PaysOk.l0 k ps (owes c d) (i : Int) c d) (∀ i' : Nat, i ≤ i' → i' < c.length → PayP c d ps i') := by
  have h4 := h.2.1
  have hol := owes_len c d
  intro e
  induction e with
  | zero =>
    intro i he hi
    refine EvB.step (fun k => by rw [spec_PaysOk.l0]) ?_
    refine EvB.neg (by omega) (EvB.step (fun k => by rw [spec_PaysOk.j1]) ?_)
    refine EvB.neg (by decide) (EvB.bind ((bookOk c d).yes h) (EvB.pos rfl ?_))
    exact ⟨_, ⟨fun _ i' h1 h2 => by omega, fun _ => by rw [hp, hol]; simp⟩, Ev.now _⟩
  | succ e ih =>
    intro i he hi
    have hlt : i < c.length := by omega
    have hs : wrap64 ((i : Int) + 1) = ((i + 1 : Nat) : Int) := wsucc hlt (by omega)
    have hob := ow_bd h hlt
    refine EvB.step (fun k => by rw [spec_PaysOk.l0]) ?_
    refine EvB.pos (by omega) (EvB.step (fun k => by rw [spec_PaysOk.j1]) ?_)
    refine EvB.pos (by rw [hp, hol]; simp) (EvB.pos (by omega) (EvB.pos (by omega) ?_))
    obtain ⟨b, hb, hbe⟩ := fracOk (fu ps i) (fd ps i)
    refine EvB.bind hbe ?_
    by_cases h1 : FracP (fu ps i) (fd ps i)
    · refine EvB.pos (hb.2 h1) ?_
      by_cases h2 : fu ps i < 0
      · exact EvB.pos h2 (EvB.ff (fun h => by have := (h i (Nat.le_refl _) hlt).2.1; omega))
      · refine EvB.neg h2 (EvB.pos (by omega) ?_)
        rw [rd_owes hlt]
        refine EvB.bind (sbefore h1 (whole_ok hob.1 (by omega))) ?_
        rw [hs]
        by_cases h3 : fu ps i * 1 > ow c d i * fd ps i
        · exact EvB.pos ((cmp_gt _ _).2 h3) (EvB.ff (fun h => by have := (h i (Nat.le_refl _) hlt).2.2; omega))
        · refine EvB.neg (fun h' => h3 ((cmp_gt _ _).1 h')) ?_
          refine (ih (i + 1) (by omega) (by omega)).congr ⟨fun h' i' h5 h6 => ?_, fun h' i' h5 h6 => h' i' (by omega) h6⟩
          by_cases e' : i' = i
          · subst e'; exact ⟨h1, by omega, by omega⟩
          · exact h' i' (by omega) h6
    · exact EvB.neg (fun h' => h1 (hb.1 h')) (EvB.ff (fun h => h1 (h i (Nat.le_refl _) hlt).1))
theorem spays (c : List Int) (d : List (List Int)) (ps : List S36) (hps : ps.length ≤ 4611686018427387904) : EvB (fun k => spec_PaysOk.f k c d ps) (PaysP c d ps) := by
  unfold spec_PaysOk.f
  by_cases h : BookP c d
  · refine EvB.bind (sowes h) ?_
    by_cases hp : ps.length = c.length
    · exact (sp_l0 h ps hp _ 0 rfl (by omega)).congr ⟨fun h' => ⟨h, hp, fun i hi => h' i (by omega) hi⟩, fun h' i _ hi => h'.2.2 i hi⟩
    · have hol := owes_len c d
      have hn : ((ps.length : Int) == ((owes c d).length : Int)) = false := beq_eq_false_iff_ne.mpr (by omega)
      refine EvB.step (fun k => by rw [spec_PaysOk.l0]) ?_
      have fin : EvB (fun k => spec_PaysOk.j1 k ps (owes c d) 0 false c d) (PaysP c d ps) := by
        refine EvB.step (fun k => by rw [spec_PaysOk.j1]) ?_
        refine EvB.neg (by decide) (EvB.bind ((bookOk c d).yes h) (EvB.pos rfl ?_))
        exact ⟨_, ⟨fun h' => absurd h' (by rw [hn]; decide), fun h' => absurd h'.2.1 hp⟩, Ev.now _⟩
      rw [hn]
      by_cases h0 : (0 : Int) < (ps.length : Int)
      · exact EvB.pos h0 fin
      · exact EvB.neg h0 fin
  · refine EvB.bind (sowes_no h) ?_
    refine EvB.step (fun k => by rw [spec_PaysOk.l0]) ?_
    have fin : EvB (fun k => spec_PaysOk.j1 k ps [] 0 false c d) (PaysP c d ps) := by
      refine EvB.step (fun k => by rw [spec_PaysOk.j1]) ?_
      exact EvB.neg (by decide) (EvB.bind ((bookOk c d).no h) (EvB.neg (by decide) (EvB.ff (fun h' => h h'.1))))
    by_cases h0 : (0 : Int) < (ps.length : Int)
    · refine EvB.pos h0 ?_
      have hn : ((ps.length : Int) == (([] : List Int).length : Int)) = false := beq_eq_false_iff_ne.mpr (by show (ps.length : Int) ≠ ((0 : Nat) : Int); omega)
      rw [hn]
      exact fin
    · exact EvB.neg h0 fin
end Go.Proofs.Ytigpmfoagkhaeaa.Py
namespace Go.Proofs.Ytigpmfoagkhaeaa.Gt
open Go.RowKit Go.Proofs.Ytigpmfoagkhaeaa.PU Go.Proofs.Ytigpmfoagkhaeaa.Qh Go.Proofs.Ytigpmfoagkhaeaa.Bk Go.Proofs.Ytigpmfoagkhaeaa.Ow Go.Proofs.Ytigpmfoagkhaeaa.Fr Go.Proofs.Ytigpmfoagkhaeaa.Py Go.Proofs.YtigpmfoagkhaeaaW.PrintWords Go.Proofs.YtigpmfoagkhaeaaW.PrintMore
set_option linter.unusedVariables false
set_option linter.unusedSimpArgs false
def plusL (a b p q : Int) : Int × Int × Bool := low (a * q + p * b) (b * q)
def timesL (a b p q : Int) : Int × Int × Bool := low (a * p) (b * q)
theorem mpos {b q : Int} (hb : 1 ≤ b) (hq : 1 ≤ q) : 0 < b * q := Int.mul_pos (by omega) (by omega)
theorem iplus {a b p q : Int} (h : FracP a b) (k : FracP p q) : Ev (fun n => impl_plus.f n a b p q) (plusL a b p q) := by
  have h1 := h.1; have h2 := h.2.1; have h3 := h.2.2.1; have h4 := h.2.2.2.1
  have k1 := k.1; have k2 := k.2.1; have k3 := k.2.2.1; have k4 := k.2.2.2.1
  have m1 := mul_bd (a := a) (b := q) (m := 1000000000) (n := 1000000000) (by omega) (by omega)
  have m2 := mul_bd (a := p) (b := b) (m := 1000000000) (n := 1000000000) (by omega) (by omega)
  have m3 := mul_bd (a := b) (b := q) (m := 1000000000) (n := 1000000000) (by omega) (by omega)
  have mp := mpos h3 k3
  unfold impl_plus.f plusL
  rw [w64 (n := a * q) (by omega) (by omega), w64 (n := p * b) (by omega) (by omega), w64 (n := b * q) (by omega) (by omega), w64 (by omega) (by omega)]
  exact Ev.bind (ilowest _ _ mp (by omega) (by omega)) (Ev.now _)
theorem itimes {a b p q : Int} (h : FracP a b) (k : FracP p q) : Ev (fun n => impl_times.f n a b p q) (timesL a b p q) := by
  have h1 := h.1; have h2 := h.2.1; have h3 := h.2.2.1; have h4 := h.2.2.2.1
  have k1 := k.1; have k2 := k.2.1; have k3 := k.2.2.1; have k4 := k.2.2.2.1
  have m1 := mul_bd (a := a) (b := p) (m := 1000000000) (n := 1000000000) (by omega) (by omega)
  have m3 := mul_bd (a := b) (b := q) (m := 1000000000) (n := 1000000000) (by omega) (by omega)
  have mp := mpos h3 k3
  unfold impl_times.f timesL
  rw [w64 (n := a * p) (by omega) (by omega), w64 (n := b * q) (by omega) (by omega)]
  exact Ev.bind (ilowest _ _ mp (by omega) (by omega)) (Ev.now _)
theorem splus {a b p q : Int} (h : FracP a b) (k : FracP p q) : Ev (fun n => spec_PlusOf.f n a b p q) (plusL a b p q) := by
  have h1 := h.1; have h2 := h.2.1; have h3 := h.2.2.1; have h4 := h.2.2.2.1
  have k1 := k.1; have k2 := k.2.1; have k3 := k.2.2.1; have k4 := k.2.2.2.1
  have m1 := mul_bd (a := a) (b := q) (m := 1000000000) (n := 1000000000) (by omega) (by omega)
  have m2 := mul_bd (a := p) (b := b) (m := 1000000000) (n := 1000000000) (by omega) (by omega)
  have m3 := mul_bd (a := b) (b := q) (m := 1000000000) (n := 1000000000) (by omega) (by omega)
  have mp := mpos h3 k3
  unfold spec_PlusOf.f plusL
  rw [w64 (n := a * q) (by omega) (by omega), w64 (n := p * b) (by omega) (by omega), w64 (n := b * q) (by omega) (by omega), w64 (by omega) (by omega)]
  refine Ev.bind ((fracOk a b).yes h) (evPos rfl (Ev.bind ((fracOk p q).yes k) (evPos rfl ?_)))
  exact Ev.bind (slow _ _ mp (by omega) (by omega)) (Ev.now _)
theorem stimes {a b p q : Int} (h : FracP a b) (k : FracP p q) : Ev (fun n => spec_TimesOf.f n a b p q) (timesL a b p q) := by
  have h1 := h.1; have h2 := h.2.1; have h3 := h.2.2.1; have h4 := h.2.2.2.1
  have k1 := k.1; have k2 := k.2.1; have k3 := k.2.2.1; have k4 := k.2.2.2.1
  have m1 := mul_bd (a := a) (b := p) (m := 1000000000) (n := 1000000000) (by omega) (by omega)
  have m3 := mul_bd (a := b) (b := q) (m := 1000000000) (n := 1000000000) (by omega) (by omega)
  have mp := mpos h3 k3
  unfold spec_TimesOf.f timesL
  rw [w64 (n := a * p) (by omega) (by omega), w64 (n := b * q) (by omega) (by omega)]
  refine Ev.bind ((fracOk a b).yes h) (evPos rfl (Ev.bind ((fracOk p q).yes k) (evPos rfl ?_)))
  exact Ev.bind (slow _ _ mp (by omega) (by omega)) (Ev.now _)
theorem sfrac {x y : Int} (hx : -1000000000 ≤ x ∧ x ≤ 1000000000) (hy : 0 < y) (hy2 : y ≤ 1000000000) : Ev (fun n => spec_FracOf.f n x y) (low x y) := by
  unfold spec_FracOf.f
  refine evBind0 (Fr.l1In _ _ _) (evPos (decide_eq_true hx) (evBind0 (Fr.l1In _ _ _) (evPos (decide_eq_true ⟨by omega, hy2⟩) (evNeg (by omega) ?_))))
  exact Ev.bind (slow x y hy (by omega) (by omega)) (Ev.now _)
theorem low_fits {x y : Int} (hx : -1000000000 ≤ x ∧ x ≤ 1000000000) (hy : 0 < y) (hy2 : y ≤ 1000000000) : ∃ p q, low x y = (p, q, true) ∧ FracP p q ∧ q ≤ y := by
  have hg := gcd_pos (up := x) hy
  obtain ⟨s, hs⟩ : ((Int.gcd x y : Nat) : Int) ∣ x := Int.gcd_dvd_left ..
  obtain ⟨t, ht⟩ : ((Int.gcd x y : Nat) : Int) ∣ y := Int.gcd_dvd_right ..
  have hgi : ((Int.gcd x y : Nat) : Int) ≠ 0 := by omega
  have e1 : Int.tdiv x (Int.gcd x y : Nat) = s := by
    conv => lhs; arg 1; rw [hs]
    exact Int.mul_tdiv_cancel_left s hgi
  have e2 : Int.tdiv y (Int.gcd x y : Nat) = t := by
    conv => lhs; arg 1; rw [ht]
    exact Int.mul_tdiv_cancel_left t hgi
  have b1 := tdiv_natAbs x (Int.gcd x y)
  have b2 := tdiv_natAbs y (Int.gcd x y)
  rw [e1] at b1
  rw [e2] at b2
  have ht0 : 0 < t := by
    rcases Int.lt_or_le 0 t with h | h
    · exact h
    · have := Int.mul_nonpos_of_nonneg_of_nonpos (a := ((Int.gcd x y : Nat) : Int)) (by omega) h; omega
  have hgst : Int.gcd s t = 1 := by
    have h1 := Int.gcd_mul_left ((Int.gcd x y : Nat) : Int) s t
    rw [← hs, ← ht] at h1
    have h2 : Int.gcd x y * 1 = Int.gcd x y * Int.gcd s t := by simpa using h1
    exact (Nat.eq_of_mul_eq_mul_left hg h2).symm
  have hf : FracP s t := ⟨by omega, by omega, by omega, by omega, hgst⟩
  refine ⟨s, t, ?_, hf, by omega⟩
  unfold low
  rw [e1, e2, if_pos hf]
end Go.Proofs.Ytigpmfoagkhaeaa.Gt
namespace Go.Proofs.Ytigpmfoagkhaeaa.PU
open Go.RowKit Go.Proofs.YtigpmfoagkhaeaaW.PrintWords Go.Proofs.YtigpmfoagkhaeaaW.PrintLast Go.Proofs.YtigpmfoagkhaeaaW.PrintMore Go.Proofs.Ytigpmfoagkhaeaa.Qd
attribute [local go_sem] max2_int min2_int max_two min_two max_three min_three max_four min_four
set_option linter.unusedVariables false
set_option linter.unusedSimpArgs false
end Go.Proofs.Ytigpmfoagkhaeaa.PU
namespace Go.Proofs.Ytigpmfoagkhaeaa.Gv
open Go.RowKit Go.Proofs.Ytigpmfoagkhaeaa.PU Go.Proofs.Ytigpmfoagkhaeaa.Qh Go.Proofs.Ytigpmfoagkhaeaa.Bk Go.Proofs.Ytigpmfoagkhaeaa.Ow Go.Proofs.Ytigpmfoagkhaeaa.Fr Go.Proofs.Ytigpmfoagkhaeaa.Py Go.Proofs.Ytigpmfoagkhaeaa.Gt Go.Proofs.YtigpmfoagkhaeaaW.PrintWords Go.Proofs.YtigpmfoagkhaeaaW.PrintMore
set_option linter.unusedVariables false
set_option linter.unusedSimpArgs false
abbrev F := S36
section
variable (c : List Int) (d : List (List Int)) (ps : List F)
def pt (i k : Nat) : Int × Int × Bool := low (rd (rd_L2 d (k : Int)) (i : Int)) (ow c d k)
def tm (i k : Nat) : Int × Int × Bool := timesL (fu ps k) (fd ps k) (pt c d i k).1 (pt c d i k).2.1
def acc (i : Nat) : Nat → Nat → Int → Int → Option (Int × Int)
  | 0, _, a, b => some (a, b)
  | m + 1, k, a, b => if ow c d k = 0 then acc i m (k + 1) a b else if (plusL a b (tm c d ps i k).1 (tm c d ps i k).2.1).2.2 = true then acc i m (k + 1) (plusL a b (tm c d ps i k).1 (tm c d ps i k).2.1).1 (plusL a b (tm c d ps i k).1 (tm c d ps i k).2.1).2.1 else none
def gv : Nat → Nat → List F → List F × Bool
  | 0, _, out => (out, true)
  | m + 1, i, out => match acc c d ps i c.length 0 (rd c (i : Int)) 1 with
    | some r => gv m (i + 1) (out ++ [(⟨r.1, r.2⟩ : F)])
    | none => ([], false)
def getsV : List F × Bool := gv c d ps c.length 0 []
def Fits : Prop := ∀ i k : Nat, i < c.length → k < c.length → ow c d k ≠ 0 → (tm c d ps i k).2.2 = true
end
variable {c : List Int} {d : List (List Int)} {ps : List F}
theorem low_true {up down : Int} (hd : 0 < down) (h : (low up down).2.2 = true) : FracP (low up down).1 (low up down).2.1 := by
  have e : low up down = ((low up down).1, (low up down).2.1, true) := by rw [← h]
  exact (low_val hd e).1
theorem pt_ok (h : BookP c d) {i k : Nat} (hi : i < c.length) (hk : k < c.length) (h0 : ow c d k ≠ 0) : (pt c d i k).2.2 = true ∧ FracP (pt c d i k).1 (pt c d i k).2.1 := by
  have ho := ow_bd h hk
  have hx := (h.2.2.2 k hk).2.2.2.2 i hi
  obtain ⟨p, q, e, hf, _⟩ := low_fits (x := rd (rd_L2 d (k : Int)) (i : Int)) (y := ow c d k) ⟨by omega, by omega⟩ (by omega) (by omega)
  unfold pt
  rw [e]
  exact ⟨rfl, hf⟩
theorem tm_ok (h : PaysP c d ps) (hfit : Fits c d ps) {i k : Nat} (hi : i < c.length) (hk : k < c.length) (h0 : ow c d k ≠ 0) : FracP (tm c d ps i k).1 (tm c d ps i k).2.1 := by
  have hp := (pt_ok h.1 hi hk h0).2
  have hy := (h.2.2 k hk).1
  exact low_true (mpos hy.2.2.1 hp.2.2.1) (hfit i k hi hk h0)
theorem plus_ok {a b p q : Int} (h : FracP a b) (k : FracP p q) (e : (plusL a b p q).2.2 = true) : FracP (plusL a b p q).1 (plusL a b p q).2.1 := low_true (mpos h.2.2.1 k.2.2.1) e
theorem one_ok {n : Int} (h0 : 0 ≤ n) (h1 : n ≤ 1000000000) : FracP n 1 := whole_ok h0 h1
theorem own (h : PaysP c d ps) {i : Nat} (hi : i < c.length) (h0 : ow c d i ≠ 0) {a b : Int} (hab : FracP a b) : plusL a b (tm c d ps i i).1 (tm c d ps i i).2.1 = (a, b, true) := by
  have ho := ow_bd h.1 hi
  have hz := (h.1.2.2.2 i hi).2.2.2.1
  have hy := (h.2.2 i hi).1
  have e1 : pt c d i i = (0, 1, true) := by
    unfold pt; rw [hz]
    exact low_of (by omega) (one_ok (by omega) (by omega)) (by omega)
  have e2 : tm c d ps i i = (0, 1, true) := by
    unfold tm timesL; rw [e1]
    exact low_of (by have := hy.2.2.1; show 0 < fd ps i * 1; omega) (one_ok (by omega) (by omega)) (by show 0 * (fd ps i * 1) = fu ps i * 0 * 1; omega)
  rw [e2]
  unfold plusL
  exact low_of (by have := hab.2.2.1; show 0 < b * 1; omega) hab (by show a * (b * 1) = (a * 1 + 0 * b) * b; rw [Int.mul_one, Int.mul_one, Int.zero_mul, Int.add_zero])
theorem ig_l1 (h : PaysP c d ps) (hfit : Fits c d ps) {i : Nat} (hi : i < c.length) (out : List F) (ho : out.length ≤ 4) {r : List F × Bool}
    (hR : ∀ a b : Int, acc c d ps i c.length 0 (rd c (i : Int)) 1 = some (a, b) → Ev (fun n => impl_gets.l0 n ps (owes c d) (out ++ [(⟨a, b⟩ : F)]) c (c.length : Int) ((i + 1 : Nat) : Int) c d) r)
    (hN : acc c d ps i c.length 0 (rd c (i : Int)) 1 = none → r = ([], false)) : ∀ (e k : Nat) (a b : Int), c.length - k = e → k ≤ c.length → FracP a b → acc c d ps i e k a b = acc c d ps i c.length 0 (rd c (i : Int)) 1 →
    Ev (fun n => impl_gets.l1 n ps (owes c d) out (i : Int) c (c.length : Int) (i : Int) d (d.length : Int) (k : Int) c d a b) r := by
  have h4 := h.1.2.1
  have hdl := h.1.2.2.1
  have hs : Aside0 (wrap64 ((i : Int) + 1) = ((i + 1 : Nat) : Int)) := ⟨wsucc hi (by omega)⟩
  have hol := owes_len c d
  intro e
  induction e with
  | zero =>
    intro k a b he hk hab hacc
    refine Ev.step (fun n => by rw [impl_gets.l1]) ?_
    rw [hs.out]
    refine evNeg (by omega) (evPos (by omega) (hR a b ?_))
    rw [← hacc]; rfl
  | succ e ih =>
    intro k a b he hk hab hacc
    have hlt : k < c.length := by omega
    have hk1 : Aside0 (wrap64 ((k : Int) + 1) = ((k + 1 : Nat) : Int)) := ⟨wsucc hlt (by omega)⟩
    refine Ev.step (fun n => by rw [impl_gets.l1]) ?_
    refine evPos (by omega) (evPos (by omega) (evPos (by omega) ?_))
    have skip : (acc c d ps i (e + 1) k a b = acc c d ps i e (k + 1) a b) → Ev (fun n => impl_gets.j2 n ps (owes c d) out (i : Int) (k : Int) (rd_L2 d (k : Int)) c (c.length : Int) (i : Int) d (d.length : Int) (k : Int) true c d a b) r := by
      intro hh
      refine Ev.step (fun n => by rw [impl_gets.j2]) ?_
      refine evPos rfl ?_
      rw [hk1.out]
      exact ih (k + 1) a b (by omega) (by omega) hab (by rw [← hh]; exact hacc)
    by_cases hki : (k : Int) = (i : Int)
    · refine evPos hki (skip ?_)
      obtain rfl : k = i := by omega
      simp only [acc]
      by_cases hz : ow c d k = 0
      · rw [if_pos hz]
      · rw [if_neg hz, own h hlt hz hab, if_pos rfl]
    · refine evNeg hki (evPos (by omega) ?_)
      rw [rd_owes hlt]
      by_cases hz : ow c d k = 0
      · have hb : (ow c d k == 0) = true := beq_iff_eq.mpr hz
        rw [hb]
        exact skip (by simp only [acc]; rw [if_pos hz])
      · have hb : (ow c d k == 0) = false := beq_eq_false_iff_ne.mpr hz
        rw [hb]
        have hrow := (h.1.2.2.2 k hlt)
        have hob := ow_bd h.1 hlt
        have hx := hrow.2.2.2.2 i hi
        have hrl := hrow.2.2.1
        refine Ev.step (fun n => by rw [impl_gets.j2]) ?_
        refine evNeg (by decide) (evPos (by omega) (evPos (by omega) (evPos (by omega) (evPos (by omega) ?_))))
        rw [rd_owes hlt]
        have hpt := pt_ok h.1 hi hlt hz
        have htm := tm_ok h hfit hi hlt hz
        have htt := hfit i k hi hlt hz
        refine Ev.bind (a := pt c d i k) (ilowest _ _ (by omega) (by omega) (by omega)) (evPos (by rw [h.2.1]; omega) ?_)
        refine Ev.bind (a := tm c d ps i k) (itimes (h.2.2 k hlt).1 hpt.2) ?_
        refine Ev.bind (a := plusL a b (tm c d ps i k).1 (tm c d ps i k).2.1) (iplus hab htm) ?_
        refine evPos htt ?_
        simp only [acc] at hacc
        rw [if_neg hz] at hacc
        rw [hk1.out]
        by_cases hp : (plusL a b (tm c d ps i k).1 (tm c d ps i k).2.1).2.2 = true
        · rw [if_pos hp] at hacc
          refine evPos hp ?_
          exact ih (k + 1) _ _ (by omega) (by omega) (plus_ok hab htm hp) hacc
        · rw [if_neg hp] at hacc
          refine evNeg hp (evEq (Ev.now _) (hN hacc.symm).symm)
theorem ig_l0 (h : PaysP c d ps) (hfit : Fits c d ps) : ∀ (e i : Nat) (out : List F), c.length - i = e → i ≤ c.length → out.length = i →
    Ev (fun n => impl_gets.l0 n ps (owes c d) out c (c.length : Int) (i : Int) c d) (gv c d ps e i out) := by
  have h4 := h.1.2.1
  intro e
  induction e with
  | zero =>
    intro i out he hi hout
    refine Ev.step (fun n => by rw [impl_gets.l0]) ?_
    exact evNeg (by omega) (Ev.now _)
  | succ e ih =>
    intro i out he hi hout
    have hlt : i < c.length := by omega
    have hc := h.1.2.2.2 i hlt
    refine Ev.step (fun n => by rw [impl_gets.l0]) ?_
    refine evPos (by omega) (evPos (by omega) (evPos (by omega) (evBind0 (a := (rd c (i : Int), 1)) rfl ?_)))
    refine ig_l1 h hfit hlt out (by omega) ?_ ?_ c.length 0 (rd c (i : Int)) 1 rfl (by omega) (one_ok hc.1 (by have := hc.2.1; omega)) rfl
    · intro a b hab
      have := ih (i + 1) (out ++ [(⟨a, b⟩ : F)]) (by omega) (by omega) (by rw [List.length_append, hout]; rfl)
      simp only [gv, hab]
      exact this
    · intro hn
      simp only [gv, hn]
theorem igets (h : PaysP c d ps) (hfit : Fits c d ps) : Ev (fun n => impl_gets.f n c d ps) (getsV c d ps) := by
  unfold impl_gets.f
  exact Ev.bind (iowes h.1) (ig_l0 h hfit c.length 0 [] rfl (by omega) rfl)
theorem sg_l1 (h : PaysP c d ps) (hfit : Fits c d ps) {i : Nat} (hi : i < c.length) (out : List F) (ho : out.length ≤ 4) {r : List F × Bool}
    (hR : ∀ a b : Int, acc c d ps i c.length 0 (rd c (i : Int)) 1 = some (a, b) → Ev (fun n => spec_GetsOf.l0 n ps (out ++ [(⟨a, b⟩ : F)]) (owes c d) ((i + 1 : Nat) : Int) c d) r)
    (hN : acc c d ps i c.length 0 (rd c (i : Int)) 1 = none → r = ([], false)) : ∀ (e k : Nat) (a b : Int), c.length - k = e → k ≤ c.length → FracP a b → acc c d ps i e k a b = acc c d ps i c.length 0 (rd c (i : Int)) 1 →
    Ev (fun n => spec_GetsOf.l1 n ps out (owes c d) (i : Int) (k : Int) c d a b) r := by
  have h4 := h.1.2.1
  have hdl := h.1.2.2.1
  have hpl := h.2.1
  have hs : Aside0 (wrap64 ((i : Int) + 1) = ((i + 1 : Nat) : Int)) := ⟨wsucc hi (by omega)⟩
  have hol := owes_len c d
  intro e
  induction e with
  | zero =>
    intro k a b he hk hab hacc
    refine Ev.step (fun n => by rw [spec_GetsOf.l1]) ?_
    rw [hs.out]
    refine evNeg (by omega) (evPos (by omega) (hR a b ?_))
    rw [← hacc]; rfl
  | succ e ih =>
    intro k a b he hk hab hacc
    have hlt : k < c.length := by omega
    have hk1 : Aside0 (wrap64 ((k : Int) + 1) = ((k + 1 : Nat) : Int)) := ⟨wsucc hlt (by omega)⟩
    refine Ev.step (fun n => by rw [spec_GetsOf.l1]) ?_
    refine evPos (by omega) (evPos (by omega) (evPos (by omega) ?_))
    rw [rd_owes hlt, hk1.out]
    simp only [acc] at hacc
    by_cases hz : ow c d k = 0
    · rw [if_pos hz] at hacc
      exact evPos hz (ih (k + 1) a b (by omega) (by omega) hab hacc)
    · rw [if_neg hz] at hacc
      have hrow := (h.1.2.2.2 k hlt)
      have hob := ow_bd h.1 hlt
      have hx := hrow.2.2.2.2 i hi
      have hrl := hrow.2.2.1
      refine evNeg hz (evPos (by omega) (evPos (by omega) (evPos (by omega) ?_)))
      have hpt := pt_ok h.1 hi hlt hz
      have htm := tm_ok h hfit hi hlt hz
      have htt := hfit i k hi hlt hz
      refine Ev.bind (a := pt c d i k) (sfrac ⟨by omega, by omega⟩ (by omega) (by omega)) ?_
      refine Ev.bind (a := tm c d ps i k) (stimes (h.2.2 k hlt).1 hpt.2) ?_
      refine Ev.bind (a := plusL a b (tm c d ps i k).1 (tm c d ps i k).2.1) (splus hab htm) ?_
      refine evPos htt ?_
      by_cases hp : (plusL a b (tm c d ps i k).1 (tm c d ps i k).2.1).2.2 = true
      · rw [if_pos hp] at hacc
        refine evPos hp ?_
        exact ih (k + 1) _ _ (by omega) (by omega) (plus_ok hab htm hp) hacc
      · rw [if_neg hp] at hacc
        refine evNeg hp (evEq (Ev.now _) (hN hacc.symm).symm)
theorem sg_l0 (h : PaysP c d ps) (hfit : Fits c d ps) : ∀ (e i : Nat) (out : List F), c.length - i = e → i ≤ c.length → out.length = i →
    Ev (fun n => spec_GetsOf.l0 n ps out (owes c d) (i : Int) c d) (gv c d ps e i out) := by
  have h4 := h.1.2.1
  have hpl := h.2.1
  intro e
  induction e with
  | zero =>
    intro i out he hi hout
    refine Ev.step (fun n => by rw [spec_GetsOf.l0]) ?_
    exact evNeg (by omega) (Ev.now _)
  | succ e ih =>
    intro i out he hi hout
    have hlt : i < c.length := by omega
    have hc := h.1.2.2.2 i hlt
    refine Ev.step (fun n => by rw [spec_GetsOf.l0]) ?_
    refine evPos (by omega) (evPos (by omega) (evPos (by omega) ?_))
    refine sg_l1 h hfit hlt out (by omega) ?_ ?_ c.length 0 (rd c (i : Int)) 1 rfl (by omega) (one_ok hc.1 (by have := hc.2.1; omega)) rfl
    · intro a b hab
      have := ih (i + 1) (out ++ [(⟨a, b⟩ : F)]) (by omega) (by omega) (by rw [List.length_append, hout]; rfl)
      simp only [gv, hab]
      exact this
    · intro hn
      simp only [gv, hn]
theorem sgetsOf (h : PaysP c d ps) (hfit : Fits c d ps) : Ev (fun n => spec_GetsOf.f n c d ps) (getsV c d ps) := by
  have := h.1.2.1
  unfold spec_GetsOf.f
  exact evBind0 rfl (Ev.bind ((spays c d ps (by rw [h.2.1]; omega)).yes h) (evPos rfl (Ev.bind (sowes h.1) (sg_l0 h hfit c.length 0 [] rfl (by omega) rfl))))
theorem sgetsOf_no (hl : ps.length ≤ 4611686018427387904) (h : ¬ PaysP c d ps) : Ev (fun n => spec_GetsOf.f n c d ps) ([], false) := by
  unfold spec_GetsOf.f
  exact evBind0 rfl (Ev.bind ((spays c d ps hl).no h) (evNeg (by decide) (Ev.now _)))
end Go.Proofs.Ytigpmfoagkhaeaa.Gv
namespace Go.Proofs.Ytigpmfoagkhaeaa.PU
open Go.RowKit Go.Proofs.YtigpmfoagkhaeaaW.PrintWords Go.Proofs.YtigpmfoagkhaeaaW.PrintLast Go.Proofs.YtigpmfoagkhaeaaW.PrintMore Go.Proofs.Ytigpmfoagkhaeaa.Qd
attribute [local go_sem] max2_int min2_int max_two min_two max_three min_three max_four min_four
set_option linter.unusedVariables false
set_option linter.unusedSimpArgs false
end Go.Proofs.Ytigpmfoagkhaeaa.PU
namespace Go.Proofs.Ytigpmfoagkhaeaa.PU
open Go.RowKit Go.Proofs.YtigpmfoagkhaeaaW.PrintWords Go.Proofs.YtigpmfoagkhaeaaW.PrintLast Go.Proofs.YtigpmfoagkhaeaaW.PrintMore Go.Proofs.Ytigpmfoagkhaeaa.Qd
attribute [local go_sem] max2_int min2_int max_two min_two max_three min_three max_four min_four
set_option linter.unusedVariables false
set_option linter.unusedSimpArgs false
end Go.Proofs.Ytigpmfoagkhaeaa.PU
namespace Go.Proofs.Ytigpmfoagkhaeaa.PU
open Go.RowKit Go.Proofs.YtigpmfoagkhaeaaW.PrintWords Go.Proofs.YtigpmfoagkhaeaaW.PrintLast Go.Proofs.YtigpmfoagkhaeaaW.PrintMore Go.Proofs.Ytigpmfoagkhaeaa.Qd
attribute [local go_sem] max2_int min2_int max_two min_two max_three min_three max_four min_four
set_option linter.unusedVariables false
set_option linter.unusedSimpArgs false
end Go.Proofs.Ytigpmfoagkhaeaa.PU
namespace Go.Proofs.Ytigpmfoagkhaeaa.PU
open Go.RowKit Go.Proofs.YtigpmfoagkhaeaaW.PrintWords Go.Proofs.YtigpmfoagkhaeaaW.PrintLast Go.Proofs.YtigpmfoagkhaeaaW.PrintMore Go.Proofs.Ytigpmfoagkhaeaa.Qd
attribute [local go_sem] max2_int min2_int max_two min_two max_three min_three max_four min_four
set_option linter.unusedVariables false
set_option linter.unusedSimpArgs false
end Go.Proofs.Ytigpmfoagkhaeaa.PU
namespace Go.Proofs.Ytigpmfoagkhaeaa.Np
open Go.RowKit Go.Proofs.Ytigpmfoagkhaeaa.PU Go.Proofs.Ytigpmfoagkhaeaa.Qh Go.Proofs.Ytigpmfoagkhaeaa.Bk Go.Proofs.Ytigpmfoagkhaeaa.Ow Go.Proofs.Ytigpmfoagkhaeaa.Fr Go.Proofs.Ytigpmfoagkhaeaa.Py Go.Proofs.YtigpmfoagkhaeaaW.PrintWords Go.Proofs.YtigpmfoagkhaeaaW.PrintMore
set_option linter.unusedVariables false
set_option linter.unusedSimpArgs false
abbrev F := S36
def none_ (n : Nat) : List F := List.replicate n (⟨0, 1⟩ : F)
theorem rF (xs : List F) (i : Nat) : rd_T36 xs (i : Int) = xs.getD i z36 := rfl
end Go.Proofs.Ytigpmfoagkhaeaa.Np
namespace Go.Proofs.Ytigpmfoagkhaeaa.Vl
open Go.RowKit Go.Proofs.Ytigpmfoagkhaeaa.PU Go.Proofs.Ytigpmfoagkhaeaa.Qh Go.Proofs.Ytigpmfoagkhaeaa.Bk Go.Proofs.Ytigpmfoagkhaeaa.Ow Go.Proofs.Ytigpmfoagkhaeaa.Fr Go.Proofs.Ytigpmfoagkhaeaa.Py Go.Proofs.Ytigpmfoagkhaeaa.Gt Go.Proofs.Ytigpmfoagkhaeaa.Gv Go.Proofs.Ytigpmfoagkhaeaa.Np Go.Proofs.YtigpmfoagkhaeaaW.PrintWords Go.Proofs.YtigpmfoagkhaeaaW.PrintMore
set_option linter.unusedVariables false
set_option linter.unusedSimpArgs false
abbrev F := S36
def Is (D X a b : Int) : Prop := 0 < b ∧ a * D = X * b
def sumF (f : Nat → Int) : Nat → Int
  | 0 => 0
  | n + 1 => sumF f n + f n
theorem one_is (n : Int) (D : Int) : Is D (n * D) n 1 := ⟨by omega, by rw [Int.mul_one]⟩
theorem plus_is {D X Y a b p q s t : Int} (h : Is D X a b) (k : Is D Y p q) (e : plusL a b p q = (s, t, true)) : Is D (X + Y) s t := by
  have hb := h.1; have hq := k.1; have h2 := h.2; have k2 := k.2
  have m : 0 < b * q := Int.mul_pos hb hq
  obtain ⟨hf, hv⟩ := low_val m e
  refine ⟨by have := hf.2.2.1; omega, ?_⟩
  apply Int.eq_of_mul_eq_mul_right (a := b * q) (by omega)
  have e1 : s * D * (b * q) = (s * (b * q)) * D := by grind
  have e2 : (a * q + p * b) * t * D = (a * D) * q * t + (p * D) * b * t := by grind
  rw [e1, hv, e2, h2, k2]
  grind
variable {c : List Int} {d : List (List Int)} {ps : List F}
abbrev db (d : List (List Int)) (k i : Nat) : Int := rd (rd_L2 d (k : Int)) (i : Int)
def Rep (c : List Int) (d : List (List Int)) (ps : List F) (D : Int) (T : Nat → Int) (i : Nat) : Prop := ∀ k, k < c.length → k ≠ i → fu ps k * D = T k * ow c d k * fd ps k
theorem tm_is (h : PaysP c d ps) {D : Int} {T : Nat → Int} {i k : Nat} (hr : Rep c d ps D T i) (hki : k ≠ i) (hi : i < c.length) (hk : k < c.length) (h0 : ow c d k ≠ 0) (hfit : Fits c d ps) : Is D (T k * db d k i) (tm c d ps i k).1 (tm c d ps i k).2.1 := by
  have ho := ow_bd h.1 hk
  have hp := pt_ok h.1 hi hk h0
  have hy := (h.2.2 k hk).1
  have ht := hfit i k hi hk h0
  have hfd : 0 < fd ps k := by have := hy.2.2.1; omega
  have e1 : pt c d i k = ((pt c d i k).1, (pt c d i k).2.1, true) := by rw [← hp.1]
  have e2 : tm c d ps i k = ((tm c d ps i k).1, (tm c d ps i k).2.1, true) := by rw [← ht]
  have hpq : 0 < (pt c d i k).2.1 := by have := hp.2.2.2.1; omega
  have v1 := (low_val (up := db d k i) (down := ow c d k) (by omega) e1).2
  have v2 := low_val (up := fu ps k * (pt c d i k).1) (down := fd ps k * (pt c d i k).2.1) (Int.mul_pos hfd hpq) e2
  have hR := hr k hk hki
  refine ⟨by have := v2.1.2.2.1; omega, ?_⟩
  generalize (tm c d ps i k).1 = s at v2 ⊢
  generalize (tm c d ps i k).2.1 = t at v2 ⊢
  generalize (pt c d i k).1 = x at v1 v2
  generalize (pt c d i k).2.1 = y at v1 v2 hpq
  have w2 := v2.2
  generalize fu ps k = u at w2 hR
  generalize fd ps k = f at w2 hR hfd
  generalize ow c d k = o at v1 hR h0 ho
  generalize T k = τ at hR ⊢
  generalize db d k i = z at v1 ⊢
  have m : 0 < f * y * o := Int.mul_pos (Int.mul_pos hfd hpq) (by omega)
  apply Int.eq_of_mul_eq_mul_right (a := f * y * o) (by omega)
  have a1 : s * D * (f * y * o) = (s * (f * y)) * D * o := by grind
  have a2 : u * x * t * D * o = (u * D) * (x * o) * t := by grind
  rw [a1, w2, a2, hR, v1]
  grind
theorem db_zero (h : BookP c d) {i k : Nat} (hi : i < c.length) (hk : k < c.length) (h0 : ow c d k = 0) : db d k i = 0 := by
  have hx := fun j hj => (h.2.2.2 k hk).2.2.2.2 j hj
  have key : ∀ m : Nat, m ≤ c.length → (∀ j : Nat, j < m → db d k j ≤ sm (rd_L2 d (k : Int)) m) := by
    intro m
    induction m with
    | zero => intro _ j hj; omega
    | succ m ih =>
      intro hm j hj
      have h1 := sm_bd h hk m (by omega)
      have h2 := hx m (by omega)
      simp only [sm]
      by_cases e : j = m
      · subst e; show db d k j ≤ _; unfold db at *; omega
      · have := ih (by omega) j (by omega); unfold db at *; omega
  have := key c.length (Nat.le_refl _) i hi
  have h2 := hx i hi
  unfold ow at h0
  unfold db at *
  omega
theorem acc_is (h : PaysP c d ps) (hfit : Fits c d ps) {D : Int} {T : Nat → Int} {i : Nat} (hr : Rep c d ps D T i) (hi : i < c.length) : ∀ (e k : Nat) (a b s t : Int) (X : Int), c.length - k = e → k ≤ c.length → FracP a b → Is D X a b → acc c d ps i e k a b = some (s, t) →
    FracP s t ∧ Is D (X + (sumF (fun k => T k * db d k i) (k + e) - sumF (fun k => T k * db d k i) k)) s t := by
  intro e
  induction e with
  | zero =>
    intro k a b s t X he hk hf hX hacc
    simp only [acc, Option.some.injEq, Prod.mk.injEq] at hacc
    obtain ⟨rfl, rfl⟩ := hacc
    refine ⟨hf, ?_⟩
    rw [Nat.add_zero, Int.sub_self, Int.add_zero]
    exact hX
  | succ e ih =>
    intro k a b s t X he hk hf hX hacc
    have hlt : k < c.length := by omega
    have hs : sumF (fun k => T k * db d k i) (k + (e + 1)) = sumF (fun k => T k * db d k i) (k + 1 + e) := by rw [show k + (e + 1) = k + 1 + e by omega]
    have hs2 : sumF (fun k => T k * db d k i) (k + 1) = sumF (fun k => T k * db d k i) k + T k * db d k i := rfl
    simp only [acc] at hacc
    by_cases hz : ow c d k = 0
    · rw [if_pos hz] at hacc
      have := ih (k + 1) a b s t X (by omega) (by omega) hf hX hacc
      rw [hs2, db_zero h.1 hi hlt hz, Int.mul_zero, Int.add_zero] at this
      rw [hs]; exact this
    · rw [if_neg hz] at hacc
      by_cases hki : k = i
      · subst hki
        rw [own h hlt hz hf] at hacc
        simp only [if_pos] at hacc
        have := ih (k + 1) a b s t X (by omega) (by omega) hf hX hacc
        have hd : db d k k = 0 := (h.1.2.2.2 k hlt).2.2.2.1
        rw [hs2, hd, Int.mul_zero, Int.add_zero] at this
        rw [hs]; exact this
      by_cases hp : (plusL a b (tm c d ps i k).1 (tm c d ps i k).2.1).2.2 = true
      · rw [if_pos hp] at hacc
        have ht := tm_is h hr hki hi hlt hz hfit
        have htf := tm_ok h hfit hi hlt hz
        have e1 : plusL a b (tm c d ps i k).1 (tm c d ps i k).2.1 = ((plusL a b (tm c d ps i k).1 (tm c d ps i k).2.1).1, (plusL a b (tm c d ps i k).1 (tm c d ps i k).2.1).2.1, true) := by rw [← hp]
        have := ih (k + 1) _ _ s t (X + T k * db d k i) (by omega) (by omega) (plus_ok hf htf hp) (plus_is hX ht e1) hacc
        rw [hs2] at this
        rw [hs]
        refine ⟨this.1, ?_⟩
        have e2 : X + (sumF (fun k => T k * db d k i) (k + 1 + e) - sumF (fun k => T k * db d k i) k) = X + T k * db d k i + (sumF (fun k => T k * db d k i) (k + 1 + e) - (sumF (fun k => T k * db d k i) k + T k * db d k i)) := by omega
        rw [e2]
        exact this.2
      · rw [if_neg hp] at hacc; simp at hacc
def val (c : List Int) (d : List (List Int)) (D : Int) (T : Nat → Int) (i : Nat) : Int := rd c (i : Int) * D + sumF (fun k => T k * db d k i) c.length
theorem rF (xs : List F) (i : Nat) : rd_T36 xs (i : Int) = xs.getD i z36 := rfl
theorem fr_app (xs : List F) (x : F) (j : Nat) : rd_T36 (xs ++ [x]) (j : Int) = if j < xs.length then rd_T36 xs (j : Int) else if j = xs.length then x else z36 := by
  rw [rF, rF, List.getD_eq_getElem?_getD, List.getD_eq_getElem?_getD, List.getElem?_append]
  by_cases h : j < xs.length
  · simp [h]
  · by_cases e : j = xs.length
    · subst e; simp
    · rw [if_neg h, if_neg h, if_neg e, List.getElem?_eq_none (by simp; omega)]; rfl
theorem gv_is (h : PaysP c d ps) (hfit : Fits c d ps) {D : Nat → Int} {T : Nat → Nat → Int} (hr : ∀ i, i < c.length → Rep c d ps (D i) (T i) i) : ∀ (e i : Nat) (out res : List F), c.length - i = e → i ≤ c.length → out.length = i → (∀ j : Nat, j < i → FracP (fu out j) (fd out j) ∧ Is (D j) (val c d (D j) (T j) j) (fu out j) (fd out j)) → gv c d ps e i out = (res, true) →
    res.length = c.length ∧ ∀ j : Nat, j < c.length → FracP (fu res j) (fd res j) ∧ Is (D j) (val c d (D j) (T j) j) (fu res j) (fd res j) := by
  intro e
  induction e with
  | zero =>
    intro i out res he hi hl hj hg
    simp only [gv, Prod.mk.injEq, and_true] at hg
    subst hg
    exact ⟨by omega, fun j h2 => hj j (by omega)⟩
  | succ e ih =>
    intro i out res he hi hl hj hg
    have hlt : i < c.length := by omega
    have hc := h.1.2.2.2 i hlt
    simp only [gv] at hg
    cases ha : acc c d ps i c.length 0 (rd c (i : Int)) 1 with
    | none => rw [ha] at hg; simp at hg
    | some r =>
      rw [ha] at hg
      obtain ⟨s, t⟩ := r
      have hv := acc_is h hfit (hr i hlt) hlt c.length 0 _ _ s t _ rfl (by omega) (one_ok hc.1 (by have := hc.2.1; omega)) (one_is _ (D i)) ha
      refine ih (i + 1) _ res (by omega) (by omega) (by rw [List.length_append, hl]; rfl) ?_ hg
      intro j hj2
      unfold fu fd
      rw [fr_app, hl]
      by_cases e2 : j < i
      · rw [if_pos e2]; exact hj j e2
      · obtain rfl : j = i := by omega
        rw [if_neg e2, if_pos rfl]
        refine ⟨hv.1, ?_⟩
        have := hv.2
        rw [Nat.zero_add, show sumF (fun k => T j k * db d k j) 0 = 0 from rfl, Int.sub_zero] at this
        exact this
theorem gv_no : ∀ {e i : Nat} {out : List F}, (gv c d ps e i out).2 = true ∨ gv c d ps e i out = ([], false) := by
  intro e
  induction e with
  | zero => intro i out; left; rfl
  | succ e ih =>
    intro i out
    simp only [gv]
    cases acc c d ps i c.length 0 (rd c (i : Int)) 1 with
    | none => right; rfl
    | some r => exact ih
theorem gets_cases (h : PaysP c d ps) (hfit : Fits c d ps) : getsV c d ps = ([], false) ∨ ∃ res : List F, getsV c d ps = (res, true) ∧ res.length = c.length ∧ (∀ j : Nat, j < c.length → FracP (fu res j) (fd res j)) ∧ ∀ (D : Nat → Int) (T : Nat → Nat → Int), (∀ i, i < c.length → Rep c d ps (D i) (T i) i) → ∀ j : Nat, j < c.length → Is (D j) (val c d (D j) (T j) j) (fu res j) (fd res j) := by
  rcases gv_no (c := c) (d := d) (ps := ps) (e := c.length) (i := 0) (out := []) with h1 | h1
  · right
    have z := gv_is (D := fun _ => 0) (T := fun _ _ => 0) h hfit (fun i _ k _ _ => by simp) c.length 0 [] (getsV c d ps).1 rfl (by omega) rfl (fun j hj => by omega) (by rw [← h1]; rfl)
    refine ⟨(getsV c d ps).1, by rw [← h1]; rfl, z.1, fun j hj => (z.2 j hj).1, ?_⟩
    intro D T hr j hj
    exact ((gv_is h hfit hr c.length 0 [] _ rfl (by omega) rfl (fun j hj => by omega) (by rw [← h1]; rfl)).2 j hj).2
  · left; exact h1
theorem is_lt {D X Y a b p q : Int} (hD : 0 < D) (h : Is D X a b) (k : Is D Y p q) : (a * q < p * b) ↔ X < Y := by
  have hb := h.1; have hq := k.1; have h2 := h.2; have k2 := k.2
  have m : 0 < b * q := Int.mul_pos hb hq
  have e1 : a * q * D = X * (b * q) := by
    have : a * q * D = (a * D) * q := by grind
    rw [this, h2]; grind
  have e2 : p * b * D = Y * (b * q) := by
    have : p * b * D = (p * D) * b := by grind
    rw [this, k2]; grind
  constructor
  · intro hl
    have := Int.mul_lt_mul_of_pos_right hl hD
    rw [e1, e2] at this
    exact Int.lt_of_mul_lt_mul_right this (by omega)
  · intro hl
    have := Int.mul_lt_mul_of_pos_right hl m
    rw [← e1, ← e2] at this
    exact Int.lt_of_mul_lt_mul_right this (by omega)
theorem is_eq {D X a b p q : Int} (hD : 0 < D) (h : Is D X a b) (k : Is D X p q) (hf : FracP a b) (kf : FracP p q) : a = p ∧ b = q := by
  have h1 := mt (is_lt hD h k).1 (by omega)
  have h2 := mt (is_lt hD k h).1 (by omega)
  have e : a * q = p * b := by omega
  have hb := h.1
  have l1 := low_of (up := a) (down := b) hb hf rfl
  have l2 := low_of (up := a) (down := b) hb kf e.symm
  rw [l1] at l2
  simpa using l2
end Go.Proofs.Ytigpmfoagkhaeaa.Vl
namespace Go.Proofs.Ytigpmfoagkhaeaa.Vf
open Go.RowKit Go.Proofs.Ytigpmfoagkhaeaa.PU Go.Proofs.Ytigpmfoagkhaeaa.Qh Go.Proofs.Ytigpmfoagkhaeaa.Bk Go.Proofs.Ytigpmfoagkhaeaa.Ow Go.Proofs.Ytigpmfoagkhaeaa.Fr Go.Proofs.Ytigpmfoagkhaeaa.Py Go.Proofs.Ytigpmfoagkhaeaa.Gt Go.Proofs.Ytigpmfoagkhaeaa.Gv Go.Proofs.Ytigpmfoagkhaeaa.Np Go.Proofs.Ytigpmfoagkhaeaa.Vl Go.Proofs.YtigpmfoagkhaeaaW.PrintWords Go.Proofs.YtigpmfoagkhaeaaW.PrintMore
set_option linter.unusedVariables false
set_option linter.unusedSimpArgs false
abbrev F := S36
variable {c : List Int} {d : List (List Int)} {ps : List F}
theorem fits_of (h : PaysP c d ps) (hM : ∀ k, k < c.length → fd ps k ≤ 3000000) : Fits c d ps := by
  intro i k hi hk h0
  have ho := ow_bd h.1 hk
  have hx := (h.1.2.2.2 k hk).2.2.2.2 i hi
  have hy := h.2.2 k hk
  have hf := hy.1
  have hfM := hM k hk
  have f3 := hf.2.2.1
  obtain ⟨p, q, e, hpf, hq⟩ := low_fits (x := rd (rd_L2 d (k : Int)) (i : Int)) (y := ow c d k) ⟨by omega, by omega⟩ (by omega) (by omega)
  have hv := (low_val (by omega) e).2
  have q1 := hpf.2.2.1
  have hp0 : 0 ≤ p := by
    rcases Int.lt_or_le p 0 with hn | hn
    · have h1 := Int.mul_lt_mul_of_pos_right hn (show 0 < ow c d k by omega)
      rw [Int.zero_mul, hv] at h1
      have h2 := Int.mul_nonneg hx.1 (show 0 ≤ q by omega)
      omega
    · exact hn
  have hp9 : p ≤ 9 := by
    rcases Int.lt_or_le 9 p with hn | hn
    · have h1 := Int.mul_lt_mul_of_pos_right hn (show 0 < ow c d k by omega)
      rw [hv] at h1
      have h2 := Int.mul_le_mul_of_nonneg_right hx.2 (show 0 ≤ q by omega)
      omega
    · exact hn
  have hu0 := hy.2.1
  have hu1 : fu ps k ≤ 36 * 3000000 := by
    have h1 := Int.mul_le_mul_of_nonneg_right (show ow c d k ≤ 36 by omega) (show 0 ≤ fd ps k by omega)
    have := hy.2.2
    omega
  have m0 := Int.mul_nonneg hu0 hp0
  have m1 : fu ps k * p ≤ fu ps k * 9 := Int.mul_le_mul_of_nonneg_left hp9 hu0
  have m2 : fd ps k * q ≤ fd ps k * 36 := Int.mul_le_mul_of_nonneg_left (by omega) (by omega)
  have m3 : 0 < fd ps k * q := Int.mul_pos (by omega) (by omega)
  unfold tm timesL pt
  rw [e]
  obtain ⟨s, t, e2, _, _⟩ := low_fits (x := fu ps k * p) (y := fd ps k * q) ⟨by omega, by omega⟩ m3 (by omega)
  show (low (fu ps k * p) (fd ps k * q)).2.2 = true
  rw [e2]
def prodF (f : Nat → Int) : Nat → Int
  | 0 => 1
  | n + 1 => prodF f n * f n
theorem prodF_pos {f : Nat → Int} : ∀ {n : Nat}, (∀ k, k < n → 0 < f k) → 0 < prodF f n
  | 0, _ => by show (0 : Int) < 1; omega
  | n + 1, h => Int.mul_pos (prodF_pos (fun k hk => h k (by omega))) (h n (by omega))
theorem prodF_dvd {f : Nat → Int} : ∀ {n k : Nat}, k < n → f k ∣ prodF f n
  | 0, _, h => by omega
  | n + 1, k, h => by
    by_cases e : k = n
    · subst e; exact ⟨prodF f k, by rw [prodF, Int.mul_comm]⟩
    · obtain ⟨z, hz⟩ := prodF_dvd (f := f) (n := n) (k := k) (by omega)
      exact ⟨z * f n, by rw [prodF, hz, Int.mul_assoc]⟩
theorem rep_ex (h : PaysP c d ps) : ∃ D T, 0 < D ∧ (∀ k, k < c.length → 0 ≤ T k) ∧ ∀ i, Rep c d ps D T i := by
  let m : Nat → Int := fun k => if ow c d k = 0 then 1 else fd ps k * ow c d k
  have hm : ∀ k, k < c.length → 0 < m k := by
    intro k hk
    have ho := ow_bd h.1 hk
    have := (h.2.2 k hk).1.2.2.1
    show 0 < (if ow c d k = 0 then (1 : Int) else fd ps k * ow c d k)
    split
    · omega
    · exact Int.mul_pos (by omega) (by omega)
  have hD := prodF_pos (f := m) (n := c.length) hm
  refine ⟨prodF m c.length, fun k => if ow c d k = 0 then 0 else fu ps k * (prodF m c.length / m k), hD, ?_, ?_⟩
  · intro k hk
    show 0 ≤ (if ow c d k = 0 then (0 : Int) else fu ps k * (prodF m c.length / m k))
    split
    · omega
    · exact Int.mul_nonneg (h.2.2 k hk).2.1 (Int.ediv_nonneg (by omega) (by have := hm k hk; omega))
  · intro i k hk _
    show fu ps k * prodF m c.length = (if ow c d k = 0 then (0 : Int) else fu ps k * (prodF m c.length / m k)) * ow c d k * fd ps k
    by_cases hz : ow c d k = 0
    · have h1 := (h.2.2 k hk).2.1
      have h2 := (h.2.2 k hk).2.2
      rw [hz, Int.zero_mul] at h2
      have h3 : fu ps k = 0 := by omega
      rw [if_pos hz, h3]; simp
    · rw [if_neg hz]
      have e : prodF m c.length / m k * m k = prodF m c.length := Int.ediv_mul_cancel (prodF_dvd (f := m) hk)
      have e2 : m k = fd ps k * ow c d k := if_neg hz
      generalize prodF m c.length / m k = z at e ⊢
      rw [← e, e2]
      grind
theorem sumF_nonneg {f : Nat → Int} : ∀ {n : Nat}, (∀ k, k < n → 0 ≤ f k) → 0 ≤ sumF f n
  | 0, _ => by show (0 : Int) ≤ 0; omega
  | n + 1, h => by
    have h1 := sumF_nonneg (f := f) (n := n) (fun k hk => h k (by omega))
    have h2 := h n (by omega)
    show 0 ≤ sumF f n + f n
    omega
theorem sumF_le {f g : Nat → Int} : ∀ {n : Nat}, (∀ k, k < n → f k ≤ g k) → sumF f n ≤ sumF g n
  | 0, _ => by show (0 : Int) ≤ 0; omega
  | n + 1, h => by
    have h1 := sumF_le (f := f) (g := g) (n := n) (fun k hk => h k (by omega))
    have h2 := h n (by omega)
    show sumF f n + f n ≤ sumF g n + g n
    omega
theorem sumF_congr {f g : Nat → Int} {n : Nat} (h : ∀ k, k < n → f k = g k) : sumF f n = sumF g n := by
  have h1 := sumF_le (f := f) (g := g) (n := n) (fun k hk => by have := h k hk; omega)
  have h2 := sumF_le (f := g) (g := f) (n := n) (fun k hk => by have := h k hk; omega)
  omega
end Go.Proofs.Ytigpmfoagkhaeaa.Vf
namespace Go.Proofs.Ytigpmfoagkhaeaa.PU
open Go.RowKit Go.Proofs.YtigpmfoagkhaeaaW.PrintWords Go.Proofs.YtigpmfoagkhaeaaW.PrintLast Go.Proofs.YtigpmfoagkhaeaaW.PrintMore Go.Proofs.Ytigpmfoagkhaeaa.Qd
attribute [local go_sem] max2_int min2_int max_two min_two max_three min_three max_four min_four
set_option linter.unusedVariables false
set_option linter.unusedSimpArgs false
end Go.Proofs.Ytigpmfoagkhaeaa.PU
namespace Go.Proofs.Ytigpmfoagkhaeaa.PU
open Go.RowKit Go.Proofs.YtigpmfoagkhaeaaW.PrintWords Go.Proofs.YtigpmfoagkhaeaaW.PrintLast Go.Proofs.YtigpmfoagkhaeaaW.PrintMore Go.Proofs.Ytigpmfoagkhaeaa.Qd
attribute [local go_sem] max2_int min2_int max_two min_two max_three min_three max_four min_four
set_option linter.unusedVariables false
set_option linter.unusedSimpArgs false
end Go.Proofs.Ytigpmfoagkhaeaa.PU
namespace Go.Proofs.Ytigpmfoagkhaeaa.Li
open Go.RowKit Go.Proofs.Ytigpmfoagkhaeaa.PU Go.Proofs.Ytigpmfoagkhaeaa.Qh Go.Proofs.Ytigpmfoagkhaeaa.Bk Go.Proofs.Ytigpmfoagkhaeaa.Ow Go.Proofs.Ytigpmfoagkhaeaa.Fr Go.Proofs.Ytigpmfoagkhaeaa.Py Go.Proofs.Ytigpmfoagkhaeaa.Gt Go.Proofs.Ytigpmfoagkhaeaa.Gv Go.Proofs.Ytigpmfoagkhaeaa.Np Go.Proofs.Ytigpmfoagkhaeaa.Vl Go.Proofs.Ytigpmfoagkhaeaa.Vf Go.Proofs.Ytigpmfoagkhaeaa.Bf Go.Proofs.YtigpmfoagkhaeaaW.PrintWords Go.Proofs.YtigpmfoagkhaeaaW.PrintMore
set_option linter.unusedVariables false
set_option linter.unusedSimpArgs false
abbrev F := S36
def LI (n : Nat) (D : Int) (X : Nat → Int) (L : List F) : Prop := L.length = n ∧ ∀ i : Nat, i < n → FracP (fu L i) (fd L i) ∧ Is D (X i) (fu L i) (fd L i)
variable {c : List Int} {d : List (List Int)} {ps : List F}
theorem take_get {α : Type} {out res : List α} {dflt : α} {i : Nat} (hl : out.length = i) : (out ++ res.drop i).getD i dflt = res.getD i dflt := by
  rw [List.getD_eq_getElem?_getD, List.getD_eq_getElem?_getD, List.getElem?_append_right (by omega), List.getElem?_drop, hl, Nat.sub_self, Nat.add_zero]
theorem take_set {α : Type} {out res : List α} {v : α} {i : Nat} (hl : out.length = i) (hi : i < res.length) : (out ++ res.drop i).set i v = out ++ [v] ++ res.drop (i + 1) := by
  rw [List.set_append, if_neg (by omega), hl, Nat.sub_self, List.drop_eq_getElem_cons hi, List.set_cons_zero, List.append_assoc]
  rfl
end Go.Proofs.Ytigpmfoagkhaeaa.Li
namespace Go.Proofs.Ytigpmfoagkhaeaa.Dr
open Go.RowKit Go.Proofs.Ytigpmfoagkhaeaa.PU Go.Proofs.Ytigpmfoagkhaeaa.Qh Go.Proofs.YtigpmfoagkhaeaaW.PrintWords Go.Proofs.YtigpmfoagkhaeaaW.PrintMore
set_option linter.unusedVariables false
set_option linter.unusedSimpArgs false
theorem xor_nonneg (a b : Int) (ha : 0 ≤ a) (ha2 : a < 4611686018427387904) (hb : 0 ≤ b) (hb2 : b < 4611686018427387904) : 0 ≤ Go.bits .xor .i64 a b := by
  obtain ⟨m, rfl⟩ := Int.eq_ofNat_of_zero_le ha
  obtain ⟨n, rfl⟩ := Int.eq_ofNat_of_zero_le hb
  have hm : m < 2 ^ 62 := by omega
  have hn : n < 2 ^ 62 := by omega
  have hx : m ^^^ n < 2 ^ 62 := Nat.xor_lt_two_pow hm hn
  have e1 : m % 2 ^ 64 = m := Nat.mod_eq_of_lt (by omega)
  have e2 : n % 2 ^ 64 = n := Nat.mod_eq_of_lt (by omega)
  have : Go.bits .xor .i64 (m : Int) (n : Int) = ((m ^^^ n : Nat) : Int) := by
    simp only [Go.bits, BitVec.ofInt_natCast, BitVec.toNat_xor, BitVec.toNat_ofNat]
    show IntKind.i64.wrap (((m % 2 ^ 64) ^^^ (n % 2 ^ 64) : Nat) : Int) = _
    rw [e1, e2, IntKind.wrap_i64]
    omega
  rw [this]
  omega
def Bytes (b : List Int) : Prop := b.length ≤ 2000 ∧ ∀ x ∈ b, 0 ≤ x ∧ x ≤ 255
theorem rd_byte {b : List Int} (h : Bytes b) (i : Int) : 0 ≤ rd b i ∧ rd b i ≤ 255 := by
  unfold rd
  by_cases hi : i.toNat < b.length
  · exact h.2 _ (getD_mem 0 b _ hi)
  · simp [List.getD_eq_getElem?_getD, List.getElem?_eq_none (by omega : b.length ≤ i.toNat)]
theorem pick {b : List Int} (hb : Bytes b) (p n : Int) (h0 : 0 ≤ p) (h1 : p ≤ 1000000000) :
    ∃ v, 0 ≤ v ∧ (1 ≤ n → v < n) ∧ (n < 1 → v = 0) ∧ Ev (fun k => spec_l20Rd_pick.f k b p n) (v, p + 1) := by
  have hp : wrap64 (p + 1) = p + 1 := w64 (by omega) (by omega)
  have hp1 : wrap64 (p + 1 - 1) = p := by rw [w64 (by omega) (by omega)]; omega
  unfold spec_l20Rd_pick.f
  rw [hp]
  by_cases hn : n < 1
  · refine ⟨0, by omega, by omega, fun _ => rfl, evPos hn ?_⟩
    refine Ev.step (fun k => by rw [spec_l20Rd_pick.j0]) ?_
    exact evPos rfl (Ev.now _)
  by_cases hz : b.length = 0
  · refine ⟨0, by omega, by omega, fun h => absurd h hn, evNeg hn ?_⟩
    refine Ev.step (fun k => by rw [spec_l20Rd_pick.j0]) ?_
    exact evPos (by simp [hz]) (Ev.now _)
  have hlen : 0 < (b.length : Int) := by omega
  by_cases hlt : p < (b.length : Int)
  · have hr := rd_byte hb p
    refine ⟨Int.tmod (rd b p) n, Int.tmod_nonneg _ hr.1, fun _ => Int.tmod_lt_of_pos _ (by omega), fun h => absurd h hn, evNeg hn ?_⟩
    refine Ev.step (fun k => by rw [spec_l20Rd_pick.j0]) ?_
    rw [hp1]
    refine evNeg (fun h => by have := beq_iff_eq.mp h; omega) (evPos hlt (evPos h0 (evNeg (by omega) ?_)))
    rw [w64 (by omega) (by omega)]
    exact Ev.now _
  · have hp7 : wrap64 (p * 7) = p * 7 := w64 (by omega) (by omega)
    have hp73 : wrap64 (p * 7 + 3) = p * 7 + 3 := w64 (by omega) (by omega)
    have hp29 : wrap64 (p * 29) = p * 29 := w64 (by omega) (by omega)
    have i1 := Int.tmod_nonneg (b.length : Int) h0
    have i2 := Int.tmod_lt_of_pos p hlen
    have j1 := Int.tmod_nonneg (b.length : Int) (show 0 ≤ p * 7 + 3 by omega)
    have j2 := Int.tmod_lt_of_pos (p * 7 + 3) hlen
    have d1 : 0 ≤ Int.tdiv p (b.length : Int) := Int.tdiv_nonneg h0 (by omega)
    have d2 : Int.tdiv p (b.length : Int) ≤ p := Int.tdiv_le_self _ h0
    have r1 := rd_byte hb (Int.tmod p (b.length : Int))
    have r2 := rd_byte hb (Int.tmod (p * 7 + 3) (b.length : Int))
    have key : ∃ x, 0 ≤ x ∧ x < 4611686018427387904 ∧ wrap64 ((wrap64 ((wrap64 ((wrap64 ((wrap64 (rd b (Int.tmod p (b.length : Int)))) * 131)) + (wrap64 ((wrap64 (rd b (Int.tmod (p * 7 + 3) (b.length : Int)))) * 1117)))) + (p * 29))) + (wrap64 ((wrap64 (Int.tdiv p (b.length : Int))) * 53))) = x := by
      generalize rd b (Int.tmod p (b.length : Int)) = u at *
      generalize rd b (Int.tmod (p * 7 + 3) (b.length : Int)) = v at *
      generalize Int.tdiv p (b.length : Int) = d at *
      have e1 : wrap64 u = u := w64 (by omega) (by omega)
      have e2 : wrap64 v = v := w64 (by omega) (by omega)
      have e3 : wrap64 d = d := w64 (by omega) (by omega)
      have e4 : wrap64 (u * 131) = u * 131 := w64 (by omega) (by omega)
      have e5 : wrap64 (v * 1117) = v * 1117 := w64 (by omega) (by omega)
      have e6 : wrap64 (d * 53) = d * 53 := w64 (by omega) (by omega)
      have e7 : wrap64 (u * 131 + v * 1117) = u * 131 + v * 1117 := w64 (by omega) (by omega)
      have e8 : wrap64 (u * 131 + v * 1117 + p * 29) = u * 131 + v * 1117 + p * 29 := w64 (by omega) (by omega)
      refine ⟨u * 131 + v * 1117 + p * 29 + d * 53, by omega, by omega, ?_⟩
      rw [e1, e2, e3, e4, e5, e6, e7, e8]
      exact w64 (by omega) (by omega)
    obtain ⟨x, hx0, hx1, hx⟩ := key
    have t0 : 0 ≤ Int.tdiv x 64 := Int.tdiv_nonneg hx0 (by omega)
    have t1 : Int.tdiv x 64 ≤ x := Int.tdiv_le_self _ hx0
    have ht : wrap64 (Int.tdiv x 64) = Int.tdiv x 64 := w64 (by omega) (by omega)
    have hq := xor_nonneg x (Int.tdiv x 64) hx0 hx1 t0 (by omega)
    refine ⟨Int.tmod (Go.bits .xor .i64 x (Int.tdiv x 64)) n, Int.tmod_nonneg _ hq, fun _ => Int.tmod_lt_of_pos _ (by omega), fun h => absurd h hn, evNeg hn ?_⟩
    refine Ev.step (fun k => by rw [spec_l20Rd_pick.j0]) ?_
    rw [hp1, hp7, hp73, hp29, hx, ht]
    refine evNeg (fun h => by have := beq_iff_eq.mp h; omega) (evNeg hlt (evNeg (by omega) (evPos i1 (evPos i2 (evPos j1 (evPos j2 (evNeg (by omega) (Ev.now _))))))))
theorem open_ (l : List Int) (hu : ∀ x ∈ l, (Lit.int .u8 x).wf = true) : ∃ b, Bytes b ∧ spec_l20Open.f l = some (b, 0) := by
  have hb : ∀ x ∈ l, 0 ≤ x ∧ x ≤ 255 := fun x hx => by
    have := hu x hx
    simp [Lit.wf, IntKind.min, IntKind.max, IntKind.bits, IntKind.signed] at this
    omega
  unfold spec_l20Open.f
  by_cases h : (l.length : Int) > 2000
  · exact ⟨l.take 2000, ⟨by rw [List.length_take]; omega, fun x hx => hb x (List.mem_of_mem_take hx)⟩, by rw [if_pos h, if_pos (by omega)]⟩
  · exact ⟨l, ⟨by omega, hb⟩, by rw [if_neg h]⟩
end Go.Proofs.Ytigpmfoagkhaeaa.Dr
namespace Go.Proofs.Ytigpmfoagkhaeaa.Db
open Go.RowKit Go.Proofs.Ytigpmfoagkhaeaa.PU Go.Proofs.Ytigpmfoagkhaeaa.Qh Go.Proofs.Ytigpmfoagkhaeaa.Dr Go.Proofs.YtigpmfoagkhaeaaW.PrintWords Go.Proofs.YtigpmfoagkhaeaaW.PrintMore
set_option linter.unusedVariables false
set_option linter.unusedSimpArgs false
def EvX {α : Type} (g : Nat → Option α) (P : α → Prop) : Prop := ∃ r, P r ∧ Ev g r
section
variable {α β : Type} {P Q : α → Prop} {g f : Nat → Option α}
theorem EvX.imp (h : EvX g P) (k : ∀ r, P r → Q r) : EvX g Q := by obtain ⟨r, h1, h2⟩ := h; exact ⟨r, k r h1, h2⟩
theorem EvX.now {r : α} (h : P r) : EvX (fun _ => some r) P := ⟨r, h, Ev.now _⟩
theorem EvX.step {g f : Nat → Option α} (h : ∀ k, g (k + 1) = f k) (k : EvX f P) : EvX g P := by obtain ⟨r, h1, h2⟩ := k; exact ⟨r, h1, Ev.step h h2⟩
theorem EvX.pos {c : Prop} [Decidable c] (h : c) (k : EvX g P) : EvX (fun n => if c then g n else f n) P := by obtain ⟨r, h1, h2⟩ := k; exact ⟨r, h1, evPos h h2⟩
theorem EvX.neg {c : Prop} [Decidable c] (h : ¬ c) (k : EvX f P) : EvX (fun n => if c then g n else f n) P := by obtain ⟨r, h1, h2⟩ := k; exact ⟨r, h1, evNeg h h2⟩
theorem EvX.bind {g : Nat → Option β} {f : Nat → β → Option α} {a : β} (h : Ev g a) (k : EvX (fun n => f n a) P) : EvX (fun n => (g n).bind (f n)) P := by obtain ⟨r, h1, h2⟩ := k; exact ⟨r, h1, Ev.bind h h2⟩
theorem EvX.bind0 {g : Option β} {f : Nat → β → Option α} {a : β} (h : g = some a) (k : EvX (fun n => f n a) P) : EvX (fun n => g.bind (f n)) P := by obtain ⟨r, h1, h2⟩ := k; exact ⟨r, h1, evBind0 h h2⟩
end
theorem podd {b : List Int} (hb : Bytes b) (p n : Int) (hn : 1 ≤ n) (hn2 : n ≤ 1000) (h0 : 0 ≤ p) (h1 : p ≤ 1000000000) : ∃ v, Ev (fun k => spec_l20Rd_odd.f k b p n) (v, p + 1) := by
  obtain ⟨x, _, _, _, hx⟩ := pick hb p n h0 h1
  unfold spec_l20Rd_odd.f
  exact ⟨_, evPos (by omega) (Ev.bind hx (Ev.now _))⟩
def Sm (r : List Int × List (List Int) × Int) (p m : Int) : Prop := r.1.length ≤ 4 ∧ r.2.1.length ≤ 4 ∧ (∀ i : Nat, (rd_L2 r.2.1 (i : Int)).length ≤ 4) ∧ p ≤ r.2.2 ∧ r.2.2 ≤ p + m
theorem rL2 (xs : List (List Int)) (i : Nat) : rd_L2 xs (i : Int) = xs.getD i [] := rfl
theorem rows_set (ds : List (List Int)) (i : Nat) (v : List Int) (hv : v.length ≤ 4) (h : ∀ j : Nat, (rd_L2 ds (j : Int)).length ≤ 4) (j : Nat) : (rd_L2 (ds.set i v) (j : Int)).length ≤ 4 := by
  rw [rL2]
  by_cases hi : i < ds.length
  · rw [getD_set _ _ _ _ _ hi]
    by_cases e : i = j
    · rw [if_pos e]; exact hv
    · rw [if_neg e]; exact h j
  · rw [List.set_eq_of_length_le (by omega)]; exact h j
theorem rows_all (ds : List (List Int)) (m : Nat) (hm : m ≤ 4) (h : ∀ j : Nat, j < ds.length → (rd_L2 ds (j : Int)).length = m) (j : Nat) : (rd_L2 ds (j : Int)).length ≤ 4 := by
  by_cases hj : j < ds.length
  · rw [h j hj]; exact hm
  · rw [rL2]; simp [List.getD_eq_getElem?_getD, List.getElem?_eq_none (by omega : ds.length ≤ j)]
theorem bk_l1 {b : List Int} (hb : Bytes b) (n : Int) (m : Nat) (hm : m ≤ 4) (kind : Int) (i : Nat) (hi : i < m) (cs : List Int) (ds : List (List Int)) (hds : ds.length = i) (P : List Int × List (List Int) × Int → Prop) (p0 : Int) (hp0 : 0 ≤ p0) (hp1 : p0 ≤ 10000)
    (hR : ∀ (row : List Int) (p : Int), row.length = m → p0 ≤ p → p ≤ p0 + 2 * m → EvX (fun k => spec_l20Book.l0 k n (m : Int) kind ((i + 1 : Nat) : Int) b p cs (ds ++ [row])) P) :
    ∀ (e j : Nat) (row : List Int) (p : Int), m - j = e → j ≤ m → row.length = j → p0 ≤ p → p ≤ p0 + 2 * j →
    EvX (fun k => spec_l20Book.l1 k n (m : Int) kind (i : Int) row (j : Int) b p cs ds) P := by
  have hs : Aside0 (wrap64 ((i : Int) + 1) = ((i + 1 : Nat) : Int)) := ⟨wsucc hi (by omega)⟩
  intro e
  induction e with
  | zero =>
    intro j row p he hj hr h0 h1
    obtain rfl : j = m := by omega
    refine EvX.step (fun k => by rw [spec_l20Book.l1]) ?_
    rw [hs.out]
    exact EvX.neg (by omega) (EvX.pos (by omega) (hR row p hr h0 h1))
  | succ e ih =>
    intro j row p he hj hr h0 h1
    have hlt : j < m := by omega
    have hj1 : Aside0 (wrap64 ((j : Int) + 1) = ((j + 1 : Nat) : Int)) := ⟨wsucc hlt (by omega)⟩
    refine EvX.step (fun k => by rw [spec_l20Book.l1]) ?_
    rw [hj1.out]
    have hc : (j : Int) < (m : Int) := by clear ih hR; omega
    refine EvX.pos hc ?_
    have go : ∀ (v p' : Int), p0 ≤ p' → p' ≤ p0 + 2 * ((j + 1 : Nat) : Int) → EvX (fun k => if row.length < 17592186044416 then spec_l20Book.l1 k n (m : Int) kind (i : Int) (row ++ [v]) ((j + 1 : Nat) : Int) b p' cs ds else none) P := by
      intro v p' h2 h3
      have hl : row.length < 17592186044416 := by clear hj1 hs ih hR; omega
      have q1 : m - (j + 1) = e := by clear hj1 hs ih hR; omega
      have q2 : (row ++ [v]).length = j + 1 := by rw [List.length_append, hr]; rfl
      exact EvX.pos hl (ih (j + 1) (row ++ [v]) p' q1 hlt q2 h2 h3)
    by_cases hij : (i : Int) = (j : Int)
    · exact EvX.pos hij (go 0 p h0 (by omega))
    · refine EvX.neg hij ?_
      obtain ⟨v, _, _, _, hv⟩ := pick hb p 3 (by omega) (by omega)
      refine EvX.bind hv ?_
      by_cases h2 : v > 0
      · refine EvX.pos h2 ?_
        obtain ⟨v2, _, _, _, hv2⟩ := pick hb (p + 1) 10 (by omega) (by omega)
        exact EvX.bind hv2 (go v2 (p + 1 + 1) (by omega) (by omega))
      · exact EvX.neg h2 (go 0 (p + 1) (by omega) (by omega))
theorem bk_l0 {b : List Int} (hb : Bytes b) (n : Int) (hn : 1 ≤ n) (hn2 : n ≤ 1000) (m : Nat) (hm1 : 1 ≤ m) (hm : m ≤ 4) (kind : Int) (hk0 : 0 ≤ kind) (hk1 : kind < 3) : ∀ (e i : Nat) (cs : List Int) (ds : List (List Int)) (p : Int), m - i = e → i ≤ m →
    cs.length = i → ds.length = i → (∀ j : Nat, j < ds.length → (rd_L2 ds (j : Int)).length = m) → 0 ≤ p → p ≤ 100 + 10 * i →
    EvX (fun k => spec_l20Book.l0 k n (m : Int) kind (i : Int) b p cs ds) (fun r => Sm r p (10 * e + 2)) := by
  intro e
  induction e with
  | zero =>
    intro i cs ds p he hi hcs hds hrows h0 h1
    obtain rfl : i = m := by omega
    refine EvX.step (fun k => by rw [spec_l20Book.l0]) ?_
    refine EvX.neg (by omega) ?_
    obtain ⟨v, hv⟩ := podd hb p n hn hn2 h0 (by omega)
    refine EvX.bind hv ?_
    have hall := rows_all ds i hm hrows
    by_cases hvt : v = true
    · refine EvX.pos hvt ?_
      obtain ⟨w, hw0, hw1, _, hw⟩ := pick hb (p + 1) 4 (by omega) (by omega)
      refine EvX.bind hw ?_
      by_cases a : w = 0
      · exact EvX.pos a (EvX.now ⟨by simp, by simp, fun j => by simp [rL2], by show p ≤ p + 1 + 1; omega, by show p + 1 + 1 ≤ _; omega⟩)
      refine EvX.neg a ?_
      by_cases a1 : w = 1
      · refine EvX.pos a1 (EvX.pos (by omega) (EvX.now ⟨by simp; omega, by show ds.length ≤ 4; omega, hall, by show p ≤ p + 1 + 1; omega, by show p + 1 + 1 ≤ _; omega⟩))
      refine EvX.neg a1 ?_
      have r0 := hrows 0 (by omega)
      by_cases a2 : w = 2
      · refine EvX.pos a2 (EvX.pos (by omega) (EvX.pos (by rw [show (0 : Int) = ((0 : Nat) : Int) from rfl, r0]; omega) (EvX.now ⟨by show cs.length ≤ 4; omega, by simp; omega, ?_, by show p ≤ p + 1 + 1; omega, by show p + 1 + 1 ≤ _; omega⟩)))
        exact rows_set ds 0 _ (by rw [List.length_set]; exact hall 0) hall
      · have hw1 : Aside0 (wrap64 ((i : Int) - 1) = ((i - 1 : Nat) : Int)) := ⟨by rw [w64 (by omega) (by omega)]; omega⟩
        rw [hw1.out]
        have rl := hrows (i - 1) (by omega)
        refine EvX.neg a2 (EvX.pos (by omega) (EvX.pos (by omega) (EvX.pos (by rw [rl]; omega) (EvX.now ⟨by show cs.length ≤ 4; omega, by simp; omega, ?_, by show p ≤ p + 1 + 1; omega, by show p + 1 + 1 ≤ _; omega⟩))))
        rw [Int.toNat_natCast]
        exact rows_set ds (i - 1) _ (by rw [List.length_drop, rl]; omega) hall
    · exact EvX.neg hvt (EvX.now ⟨by show cs.length ≤ 4; omega, by show ds.length ≤ 4; omega, hall, by show p ≤ p + 1; omega, by show p + 1 ≤ _; omega⟩)
  | succ e ih =>
    intro i cs ds p he hi hcs hds hrows h0 h1
    have hlt : i < m := by omega
    refine EvX.step (fun k => by rw [spec_l20Book.l0]) ?_
    refine EvX.pos (by omega) ?_
    obtain ⟨v, _, _, _, hv⟩ := pick hb p 4 h0 (by omega)
    refine EvX.bind hv ?_
    obtain ⟨w, _, _, _, hw⟩ := pick hb (p + 1) 21 (by omega) (by omega)
    refine EvX.bind hw (EvX.bind0 rfl (EvX.pos hk0 (EvX.pos (by simp; omega) (EvX.pos (by omega) ?_))))
    refine bk_l1 hb n m hm kind i hlt _ ds hds _ (p + 1 + 1) (by omega) (by omega) ?_ _ 0 [] (p + 1 + 1) rfl (by omega) rfl (by omega) (by omega)
    intro row q hr hq0 hq1
    refine (ih (i + 1) _ (ds ++ [row]) q (by omega) (by omega) (by simp; omega) (by simp; omega) ?_ (by omega) (by omega)).imp ?_
    · intro j hj
      rw [rL2, List.getD_eq_getElem?_getD, List.getElem?_append]
      by_cases hjl : j < ds.length
      · rw [if_pos hjl]
        have := hrows j hjl
        rw [rL2, List.getD_eq_getElem?_getD] at this
        exact this
      · rw [if_neg hjl]
        have : j = ds.length := by simp at hj; omega
        subst this
        simpa using hr
    · intro r hr
      exact ⟨hr.1, hr.2.1, hr.2.2.1, by have := hr.2.2.2.1; omega, by have := hr.2.2.2.2; omega⟩
theorem book {b : List Int} (hb : Bytes b) (n : Int) (hn : 1 ≤ n) (hn2 : n ≤ 1000) (p : Int) (h0 : 0 ≤ p) (h1 : p ≤ 50) : EvX (fun k => spec_l20Book.f k b p n) (fun r => Sm r p 50) := by
  unfold spec_l20Book.f
  obtain ⟨v, hv0, hv1, _, hv⟩ := pick hb p 6 h0 (by omega)
  obtain ⟨w, hw0, hw1, _, hw⟩ := pick hb (p + 1) 3 (by omega) (by omega)
  have hv6 := hv1 (by omega)
  have hw3 := hw1 (by omega)
  refine EvX.bind0 rfl (EvX.bind hv (EvX.pos hv0 (EvX.pos (by simp; omega) (EvX.bind hw ?_))))
  obtain ⟨m, hm1, hm4, hm⟩ : ∃ m : Nat, 1 ≤ m ∧ m ≤ 4 ∧ rd ([1, 2, 3, 3, 4, 4] : List Int) v = (m : Int) := by
    rcases (by omega : v = 0 ∨ v = 1 ∨ v = 2 ∨ v = 3 ∨ v = 4 ∨ v = 5) with h | h | h | h | h | h <;> subst h
    · exact ⟨1, by omega, by omega, rfl⟩
    · exact ⟨2, by omega, by omega, rfl⟩
    · exact ⟨3, by omega, by omega, rfl⟩
    · exact ⟨3, by omega, by omega, rfl⟩
    · exact ⟨4, by omega, by omega, rfl⟩
    · exact ⟨4, by omega, by omega, rfl⟩
  rw [hm]
  refine (bk_l0 hb n hn hn2 m hm1 hm4 w hw0 hw3 m 0 [] [] (p + 1 + 1) (by omega) (by omega) rfl rfl (fun j hj => by simp at hj) (by omega) (by omega)).imp ?_
  intro r hr
  exact ⟨hr.1, hr.2.1, hr.2.2.1, by have := hr.2.2.2.1; omega, by have := hr.2.2.2.2; omega⟩
end Go.Proofs.Ytigpmfoagkhaeaa.Db
namespace Go.Proofs.Ytigpmfoagkhaeaa.Dp
open Go.RowKit Go.Proofs.Ytigpmfoagkhaeaa.PU Go.Proofs.Ytigpmfoagkhaeaa.Qh Go.Proofs.Ytigpmfoagkhaeaa.Dr Go.Proofs.Ytigpmfoagkhaeaa.Db Go.Proofs.Ytigpmfoagkhaeaa.Bk Go.Proofs.Ytigpmfoagkhaeaa.Ow Go.Proofs.Ytigpmfoagkhaeaa.Fr Go.Proofs.Ytigpmfoagkhaeaa.Py Go.Proofs.YtigpmfoagkhaeaaW.PrintWords Go.Proofs.YtigpmfoagkhaeaaW.PrintMore
set_option linter.unusedVariables false
set_option linter.unusedSimpArgs false
abbrev F := S36
def LowD (ps : List F) : Prop := ∀ x ∈ ps, 0 ≤ x.f1 ∧ x.f1 ≤ 6
theorem low_den (up down : Int) (hd : 0 < down) : 0 ≤ (low up down).2.1 ∧ (low up down).2.1 ≤ down := by
  unfold low
  have h1 := tdiv_natAbs down (Int.gcd up down)
  have h2 : 0 ≤ Int.tdiv down (Int.gcd up down : Nat) := Int.tdiv_nonneg (by omega) (Int.natCast_nonneg _)
  split
  · exact ⟨h2, by show Int.tdiv down (Int.gcd up down : Nat) ≤ down; omega⟩
  · exact ⟨by show (0 : Int) ≤ 0; omega, by show (0 : Int) ≤ down; omega⟩
theorem lowD_app {ps : List F} (h : LowD ps) (x : F) (h0 : 0 ≤ x.f1) (h1 : x.f1 ≤ 6) : LowD (ps ++ [x]) := by
  intro y hy
  rcases List.mem_append.mp hy with h2 | h2
  · exact h y h2
  · obtain rfl := List.mem_singleton.mp h2; exact ⟨h0, h1⟩
theorem lowD_set {ps : List F} (h : LowD ps) (i : Nat) (x : F) (h0 : 0 ≤ x.f1) (h1 : x.f1 ≤ 6) : LowD (ps.set i x) := by
  intro y hy
  rcases List.mem_or_eq_of_mem_set hy with h2 | rfl
  · exact h y h2
  · exact ⟨h0, h1⟩
def G (r : List F × Int) (p m : Int) : Prop := r.1.length ≤ 5 ∧ LowD r.1 ∧ p ≤ r.2 ∧ r.2 ≤ p + m
theorem py_l0 {b : List Int} (hb : Bytes b) (n : Int) (hn : 1 ≤ n) (hn2 : n ≤ 1000) (ow : List Int) (ho : ow.length ≤ 4) (hw : ∀ j : Nat, j < ow.length → 0 ≤ rd ow (j : Int) ∧ rd ow (j : Int) ≤ 36) : ∀ (e i : Nat) (ps : List F) (p : Int), ow.length - i = e → i ≤ ow.length →
    ps.length = i → LowD ps → 0 ≤ p → p ≤ 1000 + 10 * i → EvX (fun k => spec_l20Pays.l0 k n ps ow (i : Int) b p) (fun r => G r p (10 * e + 4)) := by
  intro e
  induction e with
  | zero =>
    intro i ps p he hi hps hl h0 h1
    refine EvX.step (fun k => by rw [spec_l20Pays.l0]) ?_
    refine EvX.neg (by omega) ?_
    obtain ⟨v, hv⟩ := podd hb p n hn hn2 h0 (by omega)
    refine EvX.bind hv ?_
    by_cases hvt : v = true
    · refine EvX.pos hvt ?_
      have app := lowD_app hl (⟨0, 1⟩ : F) (by show (0 : Int) ≤ 1; omega) (by show (1 : Int) ≤ 6; omega)
      by_cases hz : (ps.length : Int) = 0
      · exact EvX.pos hz (EvX.pos (by omega) (EvX.now ⟨by rw [List.length_append]; show ps.length + 1 ≤ 5; omega, app, by show p ≤ p + 1; omega, by show p + 1 ≤ _; omega⟩))
      refine EvX.neg hz ?_
      obtain ⟨w, _, _, _, hw2⟩ := pick hb (p + 1) 2 (by omega) (by omega)
      refine EvX.bind hw2 ?_
      by_cases hz2 : w = 0
      · exact EvX.pos hz2 (EvX.pos (by omega) (EvX.now ⟨by rw [List.length_append]; show ps.length + 1 ≤ 5; omega, app, by show p ≤ p + 1 + 1; omega, by show p + 1 + 1 ≤ _; omega⟩))
      refine EvX.neg hz2 (EvX.bind0 rfl ?_)
      obtain ⟨x, hx0, hx1, _, hx⟩ := pick hb (p + 1 + 1) 3 (by omega) (by omega)
      have hx3 := hx1 (by omega)
      refine EvX.bind hx (EvX.pos hx0 (EvX.pos (by simp; omega) (EvX.pos (by omega) (EvX.now ⟨by rw [List.length_set]; show ps.length ≤ 5; omega, ?_, by show p ≤ p + 1 + 1 + 1; omega, by show p + 1 + 1 + 1 ≤ _; omega⟩))))
      rcases (by omega : x = 0 ∨ x = 1 ∨ x = 2) with h | h | h <;> subst h
      · exact lowD_set hl _ _ (by show (0 : Int) ≤ 0; omega) (by show (0 : Int) ≤ 6; omega)
      · exact lowD_set hl _ _ (by show (0 : Int) ≤ 1; omega) (by show (1 : Int) ≤ 6; omega)
      · exact lowD_set hl _ _ (by show (0 : Int) ≤ 1; omega) (by show (1 : Int) ≤ 6; omega)
    · exact EvX.neg hvt (EvX.now ⟨by show ps.length ≤ 5; omega, hl, by show p ≤ p + 1; omega, by show p + 1 ≤ _; omega⟩)
  | succ e ih =>
    intro i ps p he hi hps hl h0 h1
    have hlt : i < ow.length := by omega
    have hs : Aside0 (wrap64 ((i : Int) + 1) = ((i + 1 : Nat) : Int)) := ⟨wsucc hlt (by omega)⟩
    have hb6 := hw i hlt
    have hm : Aside0 (wrap64 (wrap64 (rd ow (i : Int) * 6) + 1) = rd ow (i : Int) * 6 + 1) := ⟨by rw [w64 (n := rd ow (i : Int) * 6) (by omega) (by omega), w64 (by omega) (by omega)]⟩
    have hm1 : Aside0 (wrap64 (rd ow (i : Int) + 1) = rd ow (i : Int) + 1) := ⟨w64 (by omega) (by omega)⟩
    refine EvX.step (fun k => by rw [spec_l20Pays.l0]) ?_
    rw [hs.out, hm.out, hm1.out]
    refine EvX.pos (by omega) (EvX.pos (by omega) ?_)
    obtain ⟨v, hv0, hv1, _, hv⟩ := pick hb p (rd ow (i : Int) * 6 + 1) h0 (by omega)
    have hv2 := hv1 (by omega)
    refine EvX.bind hv (EvX.bind (slow v 6 (by omega) (by omega) (by omega)) ?_)
    obtain ⟨w, _, _, _, hw2⟩ := pick hb (p + 1) 4 (by omega) (by omega)
    refine EvX.bind hw2 ?_
    have go : ∀ (x : F) (p' : Int), 0 ≤ x.f1 → x.f1 ≤ 6 → p ≤ p' → p' ≤ p + 5 → EvX (fun k => if ps.length < 8796093022208 then spec_l20Pays.l0 k n (ps ++ [x]) ow ((i + 1 : Nat) : Int) b p' else none) (fun r => G r p (10 * ((e + 1 : Nat) : Int) + 4)) := by
      intro x p' a0 a1 a2 a3
      refine EvX.pos (by omega) ((ih (i + 1) (ps ++ [x]) p' (by omega) (by omega) (by rw [List.length_append, hps]; rfl) (lowD_app hl x a0 a1) (by omega) (by omega)).imp ?_)
      intro r hr
      exact ⟨hr.1, hr.2.1, by have := hr.2.2.1; omega, by have := hr.2.2.2; omega⟩
    by_cases c0 : w = 0
    · exact EvX.pos c0 (go _ _ (by show (0 : Int) ≤ 1; omega) (by show (1 : Int) ≤ 6; omega) (by omega) (by omega))
    refine EvX.neg c0 ?_
    by_cases c1 : w = 1
    · refine EvX.pos c1 ?_
      obtain ⟨x, _, _, _, hx⟩ := pick hb (p + 1 + 1) (rd ow (i : Int) + 1) (by omega) (by omega)
      exact EvX.bind hx (go _ _ (by show (0 : Int) ≤ 1; omega) (by show (1 : Int) ≤ 6; omega) (by omega) (by omega))
    · have hd := low_den v 6 (by omega)
      exact EvX.neg c1 (go _ _ hd.1 hd.2 (by omega) (by omega))
theorem pays {b : List Int} (hb : Bytes b) (n : Int) (hn : 1 ≤ n) (hn2 : n ≤ 1000) (c : List Int) (d : List (List Int)) (p : Int) (h0 : 0 ≤ p) (h1 : p ≤ 1000) : EvX (fun k => spec_l20Pays.f k b p c d n) (fun r => G r p 50) := by
  unfold spec_l20Pays.f
  by_cases h : BookP c d
  · refine EvX.bind (sowes h) ?_
    have hol := owes_len c d
    have h4 := h.2.1
    refine (py_l0 hb n hn hn2 (owes c d) (by omega) (fun j hj => ?_) _ 0 [] p rfl (by omega) rfl (fun x hx => by cases hx) h0 (by omega)).imp ?_
    · rw [rd_owes (by omega)]; exact ow_bd h (by omega)
    · intro r hr; exact ⟨hr.1, hr.2.1, hr.2.2.1, by have := hr.2.2.2; omega⟩
  · refine EvX.bind (sowes_no h) ?_
    refine (py_l0 hb n hn hn2 [] (by simp) (fun j hj => by simp at hj) _ 0 [] p rfl (by omega) rfl (fun x hx => by cases hx) h0 (by omega)).imp ?_
    intro r hr; exact ⟨hr.1, hr.2.1, hr.2.2.1, by have := hr.2.2.2; simp at this; omega⟩
end Go.Proofs.Ytigpmfoagkhaeaa.Dp
namespace Go.Proofs.Ytigpmfoagkhaeaa.Pd
open Go.RowKit Go.Proofs.Ytigpmfoagkhaeaa.PU Go.Proofs.Ytigpmfoagkhaeaa.Qh Go.Proofs.Ytigpmfoagkhaeaa.Dr Go.Proofs.Ytigpmfoagkhaeaa.Db Go.Proofs.Ytigpmfoagkhaeaa.Bk Go.Proofs.Ytigpmfoagkhaeaa.Ow Go.Proofs.Ytigpmfoagkhaeaa.Fr Go.Proofs.Ytigpmfoagkhaeaa.Py Go.Proofs.Ytigpmfoagkhaeaa.Dp Go.Proofs.Ytigpmfoagkhaeaa.Gv Go.Proofs.Ytigpmfoagkhaeaa.Vl Go.Proofs.Ytigpmfoagkhaeaa.Vf Go.Proofs.YtigpmfoagkhaeaaW.PrintWords Go.Proofs.YtigpmfoagkhaeaaW.PrintMore
set_option linter.unusedVariables false
set_option linter.unusedSimpArgs false
abbrev F := S36
theorem paid {b : List Int} (hb : Bytes b) : ∃ (c : List Int) (d : List (List Int)) (ps : List F) (q : Int), ps.length ≤ 5 ∧ LowD ps ∧ Ev (fun k => spec_l20Paid.f k b 0) (c, d, ps, q) := by
  obtain ⟨⟨c, d, q⟩, hr, hbk⟩ := book hb 20 (by omega) (by omega) 0 (by omega) (by omega)
  have hq0 : 0 ≤ q := hr.2.2.2.1
  have hq1 : q ≤ 0 + 50 := hr.2.2.2.2
  obtain ⟨⟨ps, q2⟩, hg, hps⟩ := Dp.pays hb 14 (by omega) (by omega) c d q hq0 (by omega)
  refine ⟨c, d, ps, q2, hg.1, hg.2.1, ?_⟩
  unfold spec_l20Paid.f
  exact Ev.bind hbk (Ev.bind hps (Ev.now _))
theorem low_fits {c : List Int} {d : List (List Int)} {ps : List F} (h : PaysP c d ps) (hl : LowD ps) : Fits c d ps := by
  refine fits_of h (fun k hk => ?_)
  have hm : rd_T36 ps (k : Int) ∈ ps := by
    rw [Vl.rF]; exact getD_mem _ ps k (by rw [h.2.1]; exact hk)
  have := (hl _ hm).2
  unfold fd
  omega
end Go.Proofs.Ytigpmfoagkhaeaa.Pd
namespace Go.Proofs.Ytigpmfoagkhaeaa.Kp
open Go.RowKit Go.Proofs.Ytigpmfoagkhaeaa.PU Go.Proofs.Ytigpmfoagkhaeaa.Qh Go.Proofs.Ytigpmfoagkhaeaa.Bk Go.Proofs.Ytigpmfoagkhaeaa.Ow Go.Proofs.Ytigpmfoagkhaeaa.Fr Go.Proofs.Ytigpmfoagkhaeaa.Py Go.Proofs.Ytigpmfoagkhaeaa.Dp Go.Proofs.Ytigpmfoagkhaeaa.Gt Go.Proofs.Ytigpmfoagkhaeaa.Gv Go.Proofs.Ytigpmfoagkhaeaa.Np Go.Proofs.Ytigpmfoagkhaeaa.Vl Go.Proofs.Ytigpmfoagkhaeaa.Vf Go.Proofs.Ytigpmfoagkhaeaa.Bf Go.Proofs.Ytigpmfoagkhaeaa.Li Go.Proofs.Ytigpmfoagkhaeaa.Pd Go.Proofs.YtigpmfoagkhaeaaW.PrintWords Go.Proofs.YtigpmfoagkhaeaaW.PrintMore
set_option linter.unusedVariables false
set_option linter.unusedSimpArgs false
abbrev F := S36
def lessL (a b p q : Int) : Int × Int × Bool := plusL a b (-p) q
theorem neg_ok {p q : Int} (h : FracP p q) : FracP (-p) q := ⟨by have := h.2.1; omega, by have := h.1; omega, h.2.2.1, h.2.2.2.1, by rw [Int.neg_gcd]; exact h.2.2.2.2⟩
theorem iless {a b p q : Int} (h : FracP a b) (k : FracP p q) : Ev (fun n => impl_less.f n a b p q) (lessL a b p q) := by
  have h1 := h.1; have h2 := h.2.1; have h3 := h.2.2.1; have h4 := h.2.2.2.1
  have k1 := k.1; have k2 := k.2.1; have k3 := k.2.2.1; have k4 := k.2.2.2.1
  have m1 := mul_bd (a := a) (b := q) (m := 1000000000) (n := 1000000000) (by omega) (by omega)
  have m2 := mul_bd (a := p) (b := b) (m := 1000000000) (n := 1000000000) (by omega) (by omega)
  have m3 := mul_bd (a := b) (b := q) (m := 1000000000) (n := 1000000000) (by omega) (by omega)
  have mp := mpos h3 k3
  have e : a * q + -p * b = a * q - p * b := by rw [Int.neg_mul]; omega
  unfold impl_less.f lessL plusL
  rw [w64 (n := a * q) (by omega) (by omega), w64 (n := p * b) (by omega) (by omega), w64 (n := b * q) (by omega) (by omega), w64 (by omega) (by omega), e]
  exact Ev.bind (ilowest _ _ mp (by omega) (by omega)) (Ev.now _)
theorem sless {a b p q : Int} (h : FracP a b) (k : FracP p q) : Ev (fun n => spec_LessOf.f n a b p q) (lessL a b p q) := by
  unfold spec_LessOf.f
  rw [w64 (n := -p) (by have := k.2.1; omega) (by have := k.1; omega)]
  exact Ev.bind (splus h (neg_ok k)) (Ev.now _)
def kv (res ps : List F) : Nat → Nat → List F → List F × Bool
  | 0, _, out => (out, true)
  | m + 1, i, out => if (lessL (fu res i) (fd res i) (fu ps i) (fd ps i)).2.2 = true then kv res ps m (i + 1) (out ++ [(⟨(lessL (fu res i) (fd res i) (fu ps i) (fd ps i)).1, (lessL (fu res i) (fd res i) (fu ps i) (fd ps i)).2.1⟩ : F)]) else ([], false)
variable {c : List Int} {d : List (List Int)} {ps res : List F}
theorem rF (xs : List F) (i : Nat) : rd_T36 xs (i : Int) = xs.getD i z36 := rfl
theorem ik_l0 {n : Nat} (hn : n ≤ 5) (hpl : ps.length = n) (hrl : res.length = n) (hp : ∀ j : Nat, j < n → FracP (fu ps j) (fd ps j)) (hr : ∀ j : Nat, j < n → FracP (fu res j) (fd res j)) : ∀ (e i : Nat) (out : List F), n - i = e → i ≤ n → out.length = i →
    Ev (fun k => impl_KeepsOf.l0 k (out ++ res.drop i) ps (n : Int) (i : Int)) (kv res ps e i out) := by
  intro e
  induction e with
  | zero =>
    intro i out he hi hout
    obtain rfl : i = n := by omega
    refine Ev.step (fun k => by rw [impl_KeepsOf.l0]) ?_
    refine evNeg (by omega) (evEq (Ev.now _) ?_)
    rw [List.drop_of_length_le (by omega), List.append_nil]; rfl
  | succ e ih =>
    intro i out he hi hout
    have hlt : i < n := by omega
    have hs : Aside0 (wrap64 ((i : Int) + 1) = ((i + 1 : Nat) : Int)) := ⟨wsucc hlt (by omega)⟩
    have hx : rd_T36 (out ++ res.drop i) (i : Int) = rd_T36 res (i : Int) := by rw [rF, rF, take_get hout]
    have hll : (out ++ res.drop i).length = n := by rw [List.length_append, List.length_drop]; omega
    refine Ev.step (fun k => by rw [impl_KeepsOf.l0]) ?_
    rw [hx, hs.out, Int.toNat_natCast]
    refine evPos (by omega) (evPos (by omega) (evPos (by omega) (evPos (by omega) ?_)))
    refine Ev.bind (a := lessL (fu res i) (fd res i) (fu ps i) (fd ps i)) (iless (hr i hlt) (hp i hlt)) ?_
    simp only [kv]
    by_cases ht : (lessL (fu res i) (fd res i) (fu ps i) (fd ps i)).2.2 = true
    · rw [if_pos ht]
      refine evPos ht ?_
      rw [take_set hout (by omega)]
      exact ih (i + 1) _ (by omega) (by omega) (by rw [List.length_append, hout]; rfl)
    · rw [if_neg ht]
      exact evNeg ht (Ev.now _)
theorem sk_l0 {n : Nat} (hn : n ≤ 5) (hpl : ps.length = n) (hrl : res.length = n) (hp : ∀ j : Nat, j < n → FracP (fu ps j) (fd ps j)) (hr : ∀ j : Nat, j < n → FracP (fu res j) (fd res j)) : ∀ (e i : Nat) (out : List F), n - i = e → i ≤ n → out.length = i →
    Ev (fun k => spec_KeepsOf.l0 k ps res true out (i : Int)) (kv res ps e i out) := by
  intro e
  induction e with
  | zero =>
    intro i out he hi hout
    refine Ev.step (fun k => by rw [spec_KeepsOf.l0]) ?_
    refine evNeg (by omega) (Ev.step (fun k => by rw [spec_KeepsOf.j1]) ?_)
    exact evNeg (by decide) (Ev.now _)
  | succ e ih =>
    intro i out he hi hout
    have hlt : i < n := by omega
    have hs : Aside0 (wrap64 ((i : Int) + 1) = ((i + 1 : Nat) : Int)) := ⟨wsucc hlt (by omega)⟩
    refine Ev.step (fun k => by rw [spec_KeepsOf.l0]) ?_
    refine evPos (by omega) (Ev.step (fun k => by rw [spec_KeepsOf.j1]) ?_)
    rw [hs.out]
    refine evPos rfl (evPos (by omega) (evPos (by omega) (evPos (by omega) ?_)))
    refine Ev.bind (a := lessL (fu res i) (fd res i) (fu ps i) (fd ps i)) (sless (hr i hlt) (hp i hlt)) ?_
    simp only [kv]
    by_cases ht : (lessL (fu res i) (fd res i) (fu ps i) (fd ps i)).2.2 = true
    · rw [if_pos ht]
      refine evPos ht (evPos (by omega) ?_)
      exact ih (i + 1) _ (by omega) (by omega) (by rw [List.length_append, hout]; rfl)
    · rw [if_neg ht]
      exact evNeg ht (Ev.now _)
theorem kv_no (res ps : List F) : ∀ {e i : Nat} {out : List F}, (kv res ps e i out).2 = true ∨ kv res ps e i out = ([], false) := by
  intro e
  induction e with
  | zero => intro i out; left; rfl
  | succ e ih =>
    intro i out
    simp only [kv]
    by_cases ht : (lessL (fu res i) (fd res i) (fu ps i) (fd ps i)).2.2 = true
    · rw [if_pos ht]; exact ih
    · rw [if_neg ht]; right; rfl
theorem neg_is {D V a b : Int} (h : Is D V a b) : Is D (-V) (-a) b := ⟨h.1, by have := h.2; rw [Int.neg_mul, Int.neg_mul]; omega⟩
theorem kv_li {n : Nat} {D : Int} {X V : Nat → Int} (hp : LI n D V ps) (hr : LI n D X res) : ∀ (e i : Nat) (out keeps : List F), n - i = e → i ≤ n → out.length = i → (∀ j : Nat, j < i → FracP (fu out j) (fd out j) ∧ Is D (X j - V j) (fu out j) (fd out j)) → kv res ps e i out = (keeps, true) → LI n D (fun j => X j - V j) keeps := by
  intro e
  induction e with
  | zero =>
    intro i out keeps he hi hl hj hg
    simp only [kv, Prod.mk.injEq, and_true] at hg
    subst hg
    exact ⟨by omega, fun j h2 => hj j (by omega)⟩
  | succ e ih =>
    intro i out keeps he hi hl hj hg
    have hlt : i < n := by omega
    simp only [kv] at hg
    by_cases ht : (lessL (fu res i) (fd res i) (fu ps i) (fd ps i)).2.2 = true
    · rw [if_pos ht] at hg
      refine ih (i + 1) _ keeps (by omega) (by omega) (by rw [List.length_append, hl]; rfl) ?_ hg
      intro j hj2
      unfold fu fd
      rw [fr_app, hl]
      by_cases e2 : j < i
      · rw [if_pos e2]; exact hj j e2
      · obtain rfl : j = i := by omega
        rw [if_neg e2, if_pos rfl]
        have a1 := hr.2 j hlt
        have a2 := hp.2 j hlt
        refine ⟨plus_ok a1.1 (neg_ok a2.1) ht, ?_⟩
        have e3 : plusL (fu res j) (fd res j) (-fu ps j) (fd ps j) = ((lessL (fu res j) (fd res j) (fu ps j) (fd ps j)).1, (lessL (fu res j) (fd res j) (fu ps j) (fd ps j)).2.1, true) := by
          rw [← ht]; rfl
        have := plus_is a1.2 (neg_is a2.2) e3
        rw [show X j - V j = X j + -V j by omega]
        exact this
    · rw [if_neg ht] at hg; simp at hg
theorem keeps_both (hl : ps.length ≤ 5) (hlow : LowD ps) :
    (Ev (fun n => impl_KeepsOf.f n c d ps) ([], false) ∧ Ev (fun n => spec_KeepsOf.f n c d ps) ([], false)) ∨
    ∃ keeps : List F, Ev (fun n => impl_KeepsOf.f n c d ps) (keeps, true) ∧ Ev (fun n => spec_KeepsOf.f n c d ps) (keeps, true) ∧ PaysP c d ps ∧ ∃ D T, 0 < D ∧ LI c.length D (fun i => val c d D T i - T i * ow c d i) keeps := by
  have none_ : ∀ (h2 : Ev (fun n => spec_GetsOf.f n c d ps) ([], false)), Ev (fun n => spec_KeepsOf.f n c d ps) ([], false) := by
    intro h2
    unfold spec_KeepsOf.f
    refine Ev.bind h2 (Ev.step (fun k => by rw [spec_KeepsOf.l0]) ?_)
    exact evNeg (by simp) (Ev.step (fun k => by rw [spec_KeepsOf.j1]) (evNeg (by decide) (Ev.now _)))
  by_cases h : PaysP c d ps
  · have hf := Pd.low_fits h hlow
    have h4 := h.1.2.1
    have h1 := igets h hf
    have h2 := sgetsOf h hf
    rcases gets_cases h hf with e | ⟨res, e, hrl, hrf, hri⟩
    · rw [e] at h1 h2
      refine .inl ⟨?_, none_ h2⟩
      unfold impl_KeepsOf.f
      exact Ev.bind ((arePays c d ps).yes h) (evPos rfl (Ev.bind h1 (evNeg (by decide) (Ev.now _))))
    · rw [e] at h1 h2
      have hp : ∀ j : Nat, j < c.length → FracP (fu ps j) (fd ps j) := fun j hj => (h.2.2 j hj).1
      have i1 : Ev (fun n => impl_KeepsOf.f n c d ps) (kv res ps c.length 0 []) := by
        unfold impl_KeepsOf.f
        refine Ev.bind ((arePays c d ps).yes h) (evPos rfl (Ev.bind h1 (evPos rfl ?_)))
        rw [h.2.1]
        exact ik_l0 (by omega) h.2.1 hrl hp hrf c.length 0 [] rfl (by omega) rfl
      have i2 : Ev (fun n => spec_KeepsOf.f n c d ps) (kv res ps c.length 0 []) := by
        unfold spec_KeepsOf.f
        exact Ev.bind h2 (sk_l0 (by omega) h.2.1 hrl hp hrf c.length 0 [] rfl (by omega) rfl)
      rcases kv_no res ps (e := c.length) (i := 0) (out := []) with k | k
      · obtain ⟨D, T, hD, hT, hR⟩ := rep_ex h
        have hI := hri (fun _ => D) (fun _ => T) (fun i _ => hR i)
        have hV : LI c.length D (fun i => T i * ow c d i) ps := by
          refine ⟨h.2.1, fun i hi => ⟨hp i hi, by have := (hp i hi).2.2.1; omega, ?_⟩⟩
          exact hR (i + 1) i hi (by omega)
        have hk : kv res ps c.length 0 [] = ((kv res ps c.length 0 []).1, true) := by rw [← k]
        rw [hk] at i1 i2
        exact .inr ⟨_, i1, i2, h, D, T, hD, kv_li hV ⟨hrl, fun i hi => ⟨hrf i hi, hI i hi⟩⟩ c.length 0 [] _ rfl (by omega) rfl (fun j hj => by omega) hk⟩
      · rw [k] at i1 i2
        exact .inl ⟨i1, i2⟩
  · refine .inl ⟨?_, none_ (sgetsOf_no (by omega) h)⟩
    unfold impl_KeepsOf.f
    exact Ev.bind ((arePays c d ps).no h) (evNeg (by decide) (Ev.now _))
end Go.Proofs.Ytigpmfoagkhaeaa.Kp
namespace Go.Proofs.Ytigpmfoagkhaeaa.PU
open Go.RowKit Go.Proofs.YtigpmfoagkhaeaaW.PrintWords Go.Proofs.YtigpmfoagkhaeaaW.PrintLast Go.Proofs.YtigpmfoagkhaeaaW.PrintMore Go.Proofs.Ytigpmfoagkhaeaa.Qd
attribute [local go_sem] max2_int min2_int max_two min_two max_three min_three max_four min_four
set_option linter.unusedVariables false
set_option linter.unusedSimpArgs false
end Go.Proofs.Ytigpmfoagkhaeaa.PU
namespace Go.Proofs.Ytigpmfoagkhaeaa.Sp
open Go.RowKit Go.Proofs.Ytigpmfoagkhaeaa.PU Go.Proofs.Ytigpmfoagkhaeaa.Qh Go.Proofs.Ytigpmfoagkhaeaa.Bk Go.Proofs.Ytigpmfoagkhaeaa.Ow Go.Proofs.Ytigpmfoagkhaeaa.Fr Go.Proofs.Ytigpmfoagkhaeaa.Py Go.Proofs.YtigpmfoagkhaeaaW.PrintWords Go.Proofs.YtigpmfoagkhaeaaW.PrintMore
set_option linter.unusedVariables false
set_option linter.unusedSimpArgs false
abbrev F := S36
theorem same_l (l : List F) (hl : l.length ≤ 4611686018427387904) : ∀ (e i : Nat), l.length - i = e → i ≤ l.length → Ev (fun k => laws_samePays.l0 k l l (i : Int)) true := by
  intro e
  induction e with
  | zero =>
    intro i he hi
    refine Ev.step (fun k => by rw [laws_samePays.l0]) ?_
    exact evNeg (by omega) (Ev.now _)
  | succ e ih =>
    intro i he hi
    have hlt : i < l.length := by omega
    have hs : wrap64 ((i : Int) + 1) = ((i + 1 : Nat) : Int) := wsucc hlt hl
    refine Ev.step (fun k => by rw [laws_samePays.l0]) ?_
    refine evPos (by omega) (evPos (by omega) (evPos (by omega) (evNeg (by simp) ?_)))
    rw [hs]
    exact ih (i + 1) (by omega) (by omega)
theorem same (l : List F) (hl : l.length ≤ 4611686018427387904) : Ev (fun k => laws_samePays.f k l l) true := by
  unfold laws_samePays.f
  exact evPos rfl (same_l l hl _ 0 rfl (by omega))
end Go.Proofs.Ytigpmfoagkhaeaa.Sp
namespace Go.Proofs.Ytigpmfoagkhaeaa.Al
open Go.RowKit Go.Proofs.Ytigpmfoagkhaeaa.PU Go.Proofs.Ytigpmfoagkhaeaa.Qh Go.Proofs.YtigpmfoagkhaeaaW.PrintWords Go.Proofs.YtigpmfoagkhaeaaW.PrintMore
set_option linter.unusedVariables false
set_option linter.unusedSimpArgs false
theorem alive : Ev (fun k => laws_alive.f k) true := Ev.of (fun k => laws_alive.mono k) (k := 12) (by decide +kernel)
end Go.Proofs.Ytigpmfoagkhaeaa.Al
namespace Go.Proofs.Ytigpmfoagkhaeaa.Fko
open Go.RowKit Go.Proofs.Ytigpmfoagkhaeaa.PU Go.Proofs.Ytigpmfoagkhaeaa.Qh Go.Proofs.Ytigpmfoagkhaeaa.Dr Go.Proofs.Ytigpmfoagkhaeaa.Db Go.Proofs.Ytigpmfoagkhaeaa.Bk Go.Proofs.Ytigpmfoagkhaeaa.Ow Go.Proofs.Ytigpmfoagkhaeaa.Fr Go.Proofs.Ytigpmfoagkhaeaa.Py Go.Proofs.Ytigpmfoagkhaeaa.Gt Go.Proofs.Ytigpmfoagkhaeaa.Gv Go.Proofs.Ytigpmfoagkhaeaa.Vl Go.Proofs.Ytigpmfoagkhaeaa.Vf Go.Proofs.Ytigpmfoagkhaeaa.Li Go.Proofs.Ytigpmfoagkhaeaa.Kp Go.Proofs.Ytigpmfoagkhaeaa.Pd Go.Proofs.Ytigpmfoagkhaeaa.Bf Go.Proofs.Ytigpmfoagkhaeaa.Sp Go.Proofs.YtigpmfoagkhaeaaW.PrintWords Go.Proofs.YtigpmfoagkhaeaaW.PrintMore
set_option linter.unusedVariables false
set_option linter.unusedSimpArgs false
abbrev F := S36
theorem sum_swap (f : Nat → Nat → Int) : ∀ n m : Nat, sumF (fun i => sumF (fun k => f i k) m) n = sumF (fun k => sumF (fun i => f i k) n) m
  | 0, m => by
    have : ∀ m : Nat, sumF (fun k => sumF (fun i => f i k) 0) m = 0 := by
      intro m
      induction m with
      | zero => rfl
      | succ m ih => show sumF (fun k => sumF (fun i => f i k) 0) m + 0 = 0; rw [ih]; rfl
    rw [this]; rfl
  | n + 1, m => by
    have h1 := sum_swap f n m
    have : ∀ m : Nat, sumF (fun k => sumF (fun i => f i k) (n + 1)) m = sumF (fun k => sumF (fun i => f i k) n) m + sumF (fun k => f n k) m := by
      intro m
      induction m with
      | zero => rfl
      | succ m ih =>
        show sumF (fun k => sumF (fun i => f i k) (n + 1)) m + (sumF (fun i => f i m) n + f n m) = sumF (fun k => sumF (fun i => f i k) n) m + sumF (fun i => f i m) n + (sumF (fun k => f n k) m + f n m)
        rw [ih]; omega
    show sumF (fun i => sumF (fun k => f i k) m) n + sumF (fun k => f n k) m = _
    rw [this, h1]
theorem sum_mul (t : Int) (f : Nat → Int) : ∀ n : Nat, sumF (fun i => t * f i) n = t * sumF f n
  | 0 => by show (0 : Int) = t * 0; simp
  | n + 1 => by show sumF (fun i => t * f i) n + t * f n = t * (sumF f n + f n); rw [sum_mul t f n, Int.mul_add]
theorem sum_sub (f g : Nat → Int) : ∀ n : Nat, sumF (fun i => f i - g i) n = sumF f n - sumF g n
  | 0 => rfl
  | n + 1 => by show sumF (fun i => f i - g i) n + (f n - g n) = sumF f n + f n - (sumF g n + g n); rw [sum_sub f g n]; omega
theorem sum_add (f g : Nat → Int) : ∀ n : Nat, sumF (fun i => f i + g i) n = sumF f n + sumF g n
  | 0 => rfl
  | n + 1 => by show sumF (fun i => f i + g i) n + (f n + g n) = sumF f n + f n + (sumF g n + g n); rw [sum_add f g n]; omega
theorem sm_sum (xs : List Int) : ∀ n : Nat, sm xs n = sumF (fun i => rd xs (i : Int)) n
  | 0 => rfl
  | n + 1 => by show sm xs n + rd xs (n : Int) = _; rw [sm_sum xs n]; rfl
theorem all_kept (c : List Int) (d : List (List Int)) (D : Int) (T : Nat → Int) : sumF (fun i => val c d D T i - T i * ow c d i) c.length = sumF (fun i => rd c (i : Int)) c.length * D := by
  have h1 := sum_sub (fun i => val c d D T i) (fun i => T i * ow c d i) c.length
  have h2 := sum_add (fun i => rd c (i : Int) * D) (fun i => sumF (fun k => T k * db d k i) c.length) c.length
  have h3 := sum_swap (fun i k => T k * db d k i) c.length c.length
  have h4 : sumF (fun k => sumF (fun i => T k * db d k i) c.length) c.length = sumF (fun k => T k * ow c d k) c.length := by
    refine sumF_congr (fun k _ => ?_)
    rw [sum_mul]
    unfold ow
    rw [sm_sum]
  have h5 : sumF (fun i => rd c (i : Int) * D) c.length = sumF (fun i => rd c (i : Int)) c.length * D := by
    have : sumF (fun i => rd c (i : Int) * D) c.length = sumF (fun i => D * rd c (i : Int)) c.length := sumF_congr (fun i _ => Int.mul_comm _ _)
    rw [this, sum_mul, Int.mul_comm]
  have h6 : sumF (fun i => val c d D T i) c.length = sumF (fun i => rd c (i : Int) * D + sumF (fun k => T k * db d k i) c.length) c.length := rfl
  rw [h1, h6, h2, h3, h4, h5]
  omega
theorem cash_bd {c : List Int} {d : List (List Int)} (h : BookP c d) : ∀ n : Nat, n ≤ c.length → 0 ≤ sumF (fun i => rd c (i : Int)) n ∧ sumF (fun i => rd c (i : Int)) n ≤ 20 * n
  | 0, _ => by simp [sumF]
  | n + 1, hn => by
    have h1 := cash_bd h n (by omega)
    have h2 := (h.2.2.2 n (by omega)).1
    have h3 := (h.2.2.2 n (by omega)).2.1
    show 0 ≤ sumF (fun i => rd c (i : Int)) n + rd c (n : Int) ∧ sumF (fun i => rd c (i : Int)) n + rd c (n : Int) ≤ 20 * ((n + 1 : Nat) : Int)
    omega
theorem sumOf {c : List Int} {d : List (List Int)} (h : BookP c d) : Ev (fun k => laws_sumOf.f k c) (sumF (fun i => rd c (i : Int)) c.length) := by
  have h4 := h.2.1
  have key : ∀ (e i : Nat), c.length - i = e → i ≤ c.length → Ev (fun k => laws_sumOf.l0 k c (sumF (fun i => rd c (i : Int)) i) (i : Int)) (sumF (fun i => rd c (i : Int)) c.length) := by
    intro e
    induction e with
    | zero =>
      intro i he hi
      obtain rfl : i = c.length := by omega
      refine Ev.step (fun k => by rw [laws_sumOf.l0]) ?_
      exact evNeg (by omega) (Ev.now _)
    | succ e ih =>
      intro i he hi
      have hlt : i < c.length := by omega
      have hs : Aside0 (wrap64 ((i : Int) + 1) = ((i + 1 : Nat) : Int)) := ⟨wsucc hlt (by omega)⟩
      have h1 := cash_bd h i (by omega)
      have h2 := (h.2.2.2 i hlt).1
      have h3 := (h.2.2.2 i hlt).2.1
      refine Ev.step (fun k => by rw [laws_sumOf.l0]) ?_
      rw [hs.out, w64 (n := sumF (fun i => rd c (i : Int)) i + rd c (i : Int)) (by omega) (by omega)]
      exact evPos (by omega) (evPos (by omega) (ih (i + 1) (by omega) (by omega)))
  unfold laws_sumOf.f
  exact key c.length 0 rfl (by omega)
theorem iplusOf {a b p q : Int} (h : FracP a b) (k : FracP p q) : Ev (fun n => impl_PlusOf.f n a b p q) (plusL a b p q) := by
  unfold impl_PlusOf.f
  exact Ev.bind ((isFrac a b).yes h) (evPos rfl (Ev.bind ((isFrac p q).yes k) (evPos rfl (Ev.bind (iplus h k) (Ev.now _)))))
theorem loop {c : List Int} {d : List (List Int)} (h : BookP c d) {D : Int} (hD : 0 < D) {X : Nat → Int} {keeps : List F} (hk : LI c.length D X keeps) (hS : sumF X c.length = sumF (fun i => rd c (i : Int)) c.length * D) :
    ∀ (e i : Nat) (a b : Int), c.length - i = e → i ≤ c.length → FracP a b → Is D (sumF X i) a b → Ev (fun k => laws_FnKeepsOf.l0 k keeps true (i : Int) c d a b) true := by
  have h4 := h.2.1
  have hl := hk.1
  intro e
  induction e with
  | zero =>
    intro i a b he hi hf hI
    obtain rfl : i = c.length := by omega
    have hc := cash_bd h c.length (Nat.le_refl _)
    rw [hS] at hI
    obtain ⟨e1, e2⟩ := is_eq hD hI (one_is _ D) hf (one_ok hc.1 (by omega))
    refine Ev.step (fun k => by rw [laws_FnKeepsOf.l0]) ?_
    refine evNeg (by omega) (evPos (by omega) (evPos rfl (Ev.bind (sumOf h) (evEq (Ev.now _) ?_))))
    rw [e1, e2]; simp
  | succ e ih =>
    intro i a b he hi hf hI
    have hlt : i < c.length := by omega
    have hs : Aside0 (wrap64 ((i : Int) + 1) = ((i + 1 : Nat) : Int)) := ⟨wsucc hlt (by omega)⟩
    obtain ⟨kf, kI⟩ := hk.2 i hlt
    refine Ev.step (fun k => by rw [laws_FnKeepsOf.l0]) ?_
    rw [hs.out]
    refine evPos (by omega) (evPos rfl (evPos (by omega) ?_))
    refine Ev.bind (a := plusL a b (fu keeps i) (fd keeps i)) (iplusOf hf kf) ?_
    by_cases ht : (plusL a b (fu keeps i) (fd keeps i)).2.2 = true
    · have e3 : plusL a b (fu keeps i) (fd keeps i) = ((plusL a b (fu keeps i) (fd keeps i)).1, (plusL a b (fu keeps i) (fd keeps i)).2.1, true) := by rw [← ht]
      have hp := plus_is hI kI e3
      simp only [ht]
      exact ih (i + 1) _ _ (by omega) (by omega) (plus_ok hf kf ht) hp
    · have ht2 : (plusL a b (fu keeps i) (fd keeps i)).2.2 = false := by simpa using ht
      simp only [ht2]
      refine Ev.step (fun k => by rw [laws_FnKeepsOf.l0]) ?_
      by_cases h2 : ((i + 1 : Nat) : Int) < (keeps.length : Int)
      · exact evPos h2 (evNeg (by decide) (evPos (by omega) (Ev.now _)))
      · exact evNeg h2 (evPos (by omega) (evNeg (by decide) (Ev.now _)))
theorem holds : laws_FnKeepsOf.Pure := by
  intro l0 _ _ hu
  refine Ev.rounds (g := fun k => laws_FnKeepsOf.f k l0) ?_
  unfold laws_FnKeepsOf.f
  by_cases a : (l0.length : Int) > 1048576
  · exact evPos a (Ev.now _)
  refine evNeg a ?_
  obtain ⟨b, hb, ho⟩ := Dr.open_ l0 hu
  obtain ⟨c, d, ps, q, hpl, hlow, hpd⟩ := paid hb
  have hd : Ev (fun k => spec_DrawKeepsOf.f k l0) (c, d, ps) := by
    unfold spec_DrawKeepsOf.f
    exact evBind0 ho (Ev.bind hpd (Ev.now _))
  refine Ev.bind hd ?_
  rcases keeps_both (c := c) (d := d) hpl hlow with ⟨h1, h2⟩ | ⟨keeps, h1, h2, hp, D, T, hD, hk⟩
  · refine Ev.bind h1 (Ev.bind h2 (Ev.bind (same _ (by simp)) (evPos rfl ?_)))
    refine Ev.step (fun k => by rw [laws_FnKeepsOf.j0]) ?_
    exact evNeg (by decide) (evNeg (by decide) (evPos rfl (Ev.bind Al.alive (Ev.now _))))
  · have h := hp.1
    have h4 := h.2.1
    have hl := hk.1
    refine Ev.bind h1 (Ev.bind h2 (Ev.bind (same keeps (by omega)) (evPos rfl ?_)))
    refine Ev.step (fun k => by rw [laws_FnKeepsOf.j0]) ?_
    refine evNeg (by simp) (evPos rfl ?_)
    have z := one_is 0 D
    rw [Int.zero_mul] at z
    exact loop h hD hk (all_kept c d D T) c.length 0 0 1 rfl (by omega) (one_ok (by omega) (by omega)) z
end Go.Proofs.Ytigpmfoagkhaeaa.Fko
namespace Go.Proofs.Ytigpmfoagkhaeaa.Pure
open Go.RowKit Go.Proofs.Ytigpmfoagkhaeaa.PU
theorem FnKeepsOf : laws_FnKeepsOf.Pure := Go.Proofs.Ytigpmfoagkhaeaa.Fko.holds
end Go.Proofs.Ytigpmfoagkhaeaa.Pure
namespace Go.Proofs.YtigpmfoagkhaeaaW.PrintWords
open Go.ChangeShapes Go.WideShapes
theorem sized_ints {H : Type} {enc : TypeId × Value → H} {P : Program} {W : World} {base : Nat} {spare : Nat → Bool} {held : Bool} {t e : TypeId} {k : IntKind} {a : Option Addr} {len cap : Nat} {d : DataW H} {ps : List MemPlace} {ts : List TypeId} {ds : List (DataW H)} {j : Nat}
    (hsz : (DataW.weightsEach P ts ds).all (· ≤ reachBytes) = true) (ht : ts[j]? = some t) (hd : ds[j]? = some d) (hu : P.underlying t = some (.slice e)) (he : P.underlying e = some (.int k)) (hc : P.cellsOf e = 1) {B : Nat} (hB : P.bytesOf e = B)
    (h : DataW.Trod enc P W base spare held t (.slice a len cap) d ps) : len * B ≤ 140737488351232 := by
  obtain ⟨fuel, hf⟩ := h
  rcases open_ints hu he hc hf with ⟨hcs, _⟩ | ⟨x, l, c, zs, hcs, _, hl, _, hz, hx, _, _⟩
  · simp [Value.cells] at hcs
    obtain ⟨rfl, rfl, rfl⟩ := hcs
    simp
  · simp [Value.cells] at hcs
    obtain ⟨rfl, rfl, rfl⟩ := hcs
    obtain ⟨hx, _⟩ := Prod.mk.inj hx
    subst hx
    have z := sized_slice hsz ht hd hu
    rw [hB] at z
    have hl2 : len ≤ zs.length := by
      rw [hz]
      split
      · exact hl
      · exact Nat.le_refl _
    have h1 : (lits (H := H) k (zs.take len)).length + (lits (H := H) k (zs.drop len)).length = zs.length := by
      simp [lits]
      omega
    rw [h1] at z
    exact Nat.le_trans (Nat.mul_le_mul_right _ hl2) z
end Go.Proofs.YtigpmfoagkhaeaaW.PrintWords
namespace Go.Proofs.Ytigpmfoagkhaeaa.fnKeepsOf
open Go.ChangeShapes Go.WideShapes Go.ChangeAt Go.RowKit
open Go.ChangeMaps (open_string shut_string)
set_option linter.unusedVariables false
theorem own : ownKnob Try.prog.godebug = none := by kernel_rfl
theorem laidOut : laidOutB Try.prog = true := by kernel_rfl
def IsRow (k : IntKind) (w : World) (a : Option Addr) (len cap : Nat) (zs : List Int) : Prop :=
  (a = none ∧ len = 0 ∧ cap = 0 ∧ zs = []) ∨
  ∃ x, a = some x ∧ len ≤ cap ∧ cap ≤ maxLen ∧ zs.length = cap ∧ (∀ i, i < zs.length → w.cell? (x.add i) = some (.int k (zs.getD i 0))) ∧ ∀ n ∈ zs, (Lit.int k n).wf = true
set_option maxRecDepth 100000 in
theorem lifted (os : Os) (started : os.Started) (H : Type) (enc : TypeId × Value → H) :
    ReturnsInHanded {} Try.checked os 7 .any (Rows.fnKeepsOfSpec.pre6 enc Try.prog Try.f7 Rows.fnKeepsOfRow.domain false) (Rows.fnKeepsOfSpec.post enc Try.prog Try.f7 false true false false) := by
  refine returnsInHanded_of_change_sized (C := Try.checked) own started (by kernel_rfl) Try.func7
    (ChangeSpec.witness6 (enc := enc) (C := Try.checked) false ⟨#[], #[.slice none 0 0], []⟩ 8 (by kernel_rfl) (by kernel_rfl) (by kernel_rfl) (by kernel_rfl)) ?_
  intro W base args ds gs before hval0 hW hcnd hsz0 _
  have hsz : (DataW.weightsEach Try.prog (Try.f7.params.toList ++ Rows.fnKeepsOfSpec.plain.varTypes Try.prog) (ds ++ gs)).all (· ≤ reachBytes) = true := hsz0
  have hval : ∀ (j : Nat) t v, Try.f7.params[j]? = some t → args[j]? = some v → Value.okWide Try.prog W .any base t v := hval0
  have hW' := hW
  obtain ⟨p, q, hA0, hV, rfl, hfz, hnd⟩ := hW
  have hA : DataW.TrodAll enc Try.prog W 0 (fun _ => true) true Try.f7.params.toList args.toList ds p := hA0
  rw [Try.params7] at hA hval hsz
  obtain ⟨v0, vs0, d0, ds0, p0, q0, hargs, rfl, rfl, h0, r0⟩ := trodAll_cons hA
  obtain ⟨rfl, rfl, rfl⟩ := trodAll_nil r0
  obtain rfl : args = #[v0] := by cases args; simp_all
  obtain ⟨rfl, rfl⟩ := trodVars_none hV
  obtain ⟨a0, len0, cap0, rfl⟩ := okWide_slice Try.underlying22 (hval 0 22 v0 rfl rfl)
  have k0 := h0
  have lt0 : ∀ x ∈ p0, x.block < W.heap.size := by obtain ⟨m, hm⟩ := k0; exact DataW.trod_lt m _ _ _ hm
  obtain ⟨z0, w0⟩ : ∃ zs, IsRow .u8 W a0 len0 cap0 zs := by
    obtain ⟨fuel, hf⟩ := h0
    rcases open_ints Try.underlying22 Try.underlying5 (by kernel_rfl) hf with ⟨hcs, _⟩ | ⟨x, l, c, zs, hcs, _, hl, hm, hz, _, hcell, hwz⟩
    · simp [Value.cells] at hcs
      obtain ⟨rfl, rfl, rfl⟩ := hcs
      exact ⟨[], .inl ⟨rfl, rfl, rfl, rfl⟩⟩
    · simp [Value.cells] at hcs
      obtain ⟨rfl, rfl, rfl⟩ := hcs
      exact ⟨zs, .inr ⟨_, rfl, hl, hm, by simpa using hz, hcell, hwz⟩⟩
  have y0 : len0 * 1 ≤ 140737488351232 := Go.Proofs.YtigpmfoagkhaeaaW.PrintWords.sized_ints hsz (j := 0) (t := 22) rfl rfl Try.underlying22 Try.underlying5 (by kernel_rfl) (by kernel_rfl) h0
  clear hA0 hval0 hsz0 hsz
  refine (PU.laws_FnKeepsOf.walk Pure.FnKeepsOf a0 len0 cap0 z0 W w0 y0).mono fun e W' ⟨he, bel⟩ => ?_
  subst he
  exact ⟨_, rfl, _, _, _, [], _, [], hW', trodAll_mk1 (shut_bool Try.underlying4 _), (trodAll_cons_mk (Below.trod laidOut (by kernel_rfl) (of_decide_eq_true (by kernel_rfl)) k0 bel lt0) trodAll_mk0), rfl, bel.frame _, fun h => by cases h⟩
theorem over : Rows.fnKeepsOfRow.holds Try.pinned (OpenSpec.ofChange Rows.fnKeepsOfSpec) :=
  OpenClaim.holds_of_wide 7 Try.f7 rfl rfl rfl rfl rfl rfl rfl ⟨rfl, rfl, rfl, rfl, rfl⟩ rfl rfl rfl rfl rfl (by kernel_rfl) Try.func7 (by kernel_rfl)
    (of_decide_eq_true (by kernel_rfl)) (by unfold Func.isWrapper; first | (rw [if_pos (by decide +kernel)]; kernel_rfl) | (rw [if_neg (by decide +kernel)]; exact ⟨rfl, rfl⟩))
    (fun os started H enc _ => lifted os started H enc)
theorem proved : Rows.FnKeepsOfSaid := over
end Go.Proofs.Ytigpmfoagkhaeaa.fnKeepsOf
namespace Go.Proofs.Ytigpmfoagkhaeaa
theorem fnKeepsOf_holds : Rows.FnKeepsOfSaid := fnKeepsOf.proved
end Go.Proofs.Ytigpmfoagkhaeaa
