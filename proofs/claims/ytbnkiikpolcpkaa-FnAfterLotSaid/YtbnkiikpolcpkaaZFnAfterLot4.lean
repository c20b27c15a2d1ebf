/- FnAfterLot: for every input the law holds. No condition. -/
import Derived.Test.YtbnkiikpolcpkaaZFnAfterLot1
import Derived.Test.YtbnkiikpolcpkaaZFnAfterLot2
import Derived.Test.YtbnkiikpolcpkaaZFnAfterLot3
import Derived.Below
import Derived.Deep.Draws
import Derived.Deep.AppendLies
import Derived.Maps.AppendAt
import Derived.OwnWalk
import Derived.Laws.BytesArg
import Derived.Laws.MakeOwn
import Derived.Laws.OwnMore
import Derived.Deep.OwnRows
import Derived.Tactics
import Derived.Lib.ConvBytes
import Derived.Laws.Slices
import Derived.WalkKit
import Derived.KernelRfl
import Derived.RowKit3
import Derived.Deep.LoopGhost
import Derived.Deep.QuietTactic
import Derived.BigQuiet
import Derived.WideLaws
import Derived.Deep.DeepCutAuto
import Derived.Deep.CutBlock
import Derived.Deep.RegionHeld3
import Derived.Laws.Rows
import Derived.Lib.AppendStr
import Derived.ArgAppend
import Derived.Laws.IdiomCopy
import Derived.RowKit
import Derived.OrdersHeld
import Derived.Laws.BitsLemmas
import Derived.Laws.StructEq
import Derived.Test.YtbnkiikpolcpkaaProg
import Derived.SizedLaws
import Derived.ChangeSlices
import Derived.Test.YtbnkiikpolcpkaaRows
import Derived.ProofKit
import Derived.OpenShut
import Derived.ShutString
import Derived.ChangeOld
namespace Go.Proofs.Ytbnkiikpolcpkaa.Qh
open Go.RowKit Go.Proofs.YtbnkiikpolcpkaaW.PrintWords Go.Proofs.YtbnkiikpolcpkaaW.PrintMore
set_option linter.unusedVariables false
set_option linter.unusedSimpArgs false
theorem w64 {n : Int} (h1 : -9223372036854775808 ≤ n) (h2 : n ≤ 9223372036854775807) : wrap64 n = n := by unfold wrap64; omega
theorem wsucc {i n : Nat} (h : i < n) (hn : n ≤ 4611686018427387904) : wrap64 ((i : Int) + 1) = ((i + 1 : Nat) : Int) := by unfold wrap64; omega
section
variable {α β : Type} {r : α}
theorem evPos {c : Prop} [Decidable c] {g f : Nat → Option α} (h : c) (k : Ev g r) : Ev (fun n => if c then g n else f n) r := by
  simp only [if_pos h]; exact k
theorem evNeg {c : Prop} [Decidable c] {g f : Nat → Option α} (h : ¬ c) (k : Ev f r) : Ev (fun n => if c then g n else f n) r := by
  simp only [if_neg h]; exact k
theorem evT {g f : Nat → Option α} {b : Bool} (h : b = true) (k : Ev g r) : Ev (fun n => if b = true then g n else f n) r := evPos h k
theorem evF {g f : Nat → Option α} {b : Bool} (h : b = false) (k : Ev f r) : Ev (fun n => if b = true then g n else f n) r := evNeg (by rw [h]; decide) k
theorem evIte {c : Prop} [Decidable c] {g f : Nat → Option α} (hp : c → Ev g r) (hn : ¬ c → Ev f r) : Ev (fun n => if c then g n else f n) r := by
  by_cases h : c
  · exact evPos h (hp h)
  · exact evNeg h (hn h)
theorem evBind0 {g : Option β} {f : Nat → β → Option α} {a : β} (h : g = some a) (k : Ev (fun n => f n a) r) : Ev (fun n => g.bind (f n)) r := by
  subst h; exact k
theorem evNow {g : Option α} (h : g = some r) : Ev (fun _ => g) r := by subst h; exact Ev.now r
theorem evEq {g : Nat → Option α} {q : α} (h : Ev g q) (e : q = r) : Ev g r := e ▸ h
end
theorem rd_get (xs : List Int) (i : Nat) (h : i < xs.length) : rd xs (i : Int) = xs[i] := by
  simp [rd, List.getD_eq_getElem?_getD, List.getElem?_eq_getElem h]
theorem drop_rd (xs : List Int) (i : Nat) (h : i < xs.length) : xs.drop i = rd xs (i : Int) :: xs.drop (i + 1) := by
  rw [rd_get xs i h, List.drop_eq_getElem_cons h]
theorem drop_of {α : Type} (xs : List α) (d : α) (i : Nat) (h : i < xs.length) : xs.drop i = xs.getD i d :: xs.drop (i + 1) := by
  rw [List.drop_eq_getElem_cons h]; simp [List.getD_eq_getElem?_getD, List.getElem?_eq_getElem h]
theorem getD_set {α : Type} (xs : List α) (d v : α) (i j : Nat) (h : i < xs.length) : (xs.set i v).getD j d = if i = j then v else xs.getD j d := by
  simp only [List.getD_eq_getElem?_getD, List.getElem?_set]
  by_cases e : i = j
  · subst e; simp [h]
  · simp [e]
theorem rd_set (xs : List Int) (v : Int) (i j : Int) (h0 : 0 ≤ i) (h : i < xs.length) (hj : 0 ≤ j) : rd (xs.set i.toNat v) j = if i = j then v else rd xs j := by
  unfold rd
  rw [getD_set xs 0 v i.toNat j.toNat (by omega)]
  by_cases e : i = j
  · subst e; simp
  · rw [if_neg e, if_neg (by omega)]
theorem ext_rd (xs ys : List Int) (hl : xs.length = ys.length) (h : ∀ i : Nat, i < xs.length → rd xs (i : Int) = rd ys (i : Int)) : xs = ys := by
  apply List.ext_getElem hl
  intro i h1 h2
  have := h i h1
  rwa [rd_get xs i h1, rd_get ys i h2] at this
theorem getD_mem {α : Type} (d : α) (xs : List α) (i : Nat) (h : i < xs.length) : xs.getD i d ∈ xs := by
  simp [List.getD_eq_getElem?_getD, List.getElem?_eq_getElem h]
def EvB (g : Nat → Option Bool) (p : Prop) : Prop := ∃ b, (b = true ↔ p) ∧ Ev g b
section
variable {g f : Nat → Option Bool} {p q : Prop}
theorem EvB.congr (h : EvB g p) (e : p ↔ q) : EvB g q := by obtain ⟨b, h1, h2⟩ := h; exact ⟨b, h1.trans e, h2⟩
theorem EvB.tt (h : p) : EvB (fun _ => some true) p := ⟨true, by simp [h], Ev.now _⟩
theorem EvB.ff (h : ¬ p) : EvB (fun _ => some false) p := ⟨false, by simp [h], Ev.now _⟩
theorem EvB.pos {c : Prop} [Decidable c] (h : c) (k : EvB g p) : EvB (fun n => if c then g n else f n) p := by obtain ⟨b, h1, h2⟩ := k; exact ⟨b, h1, evPos h h2⟩
theorem EvB.neg {c : Prop} [Decidable c] (h : ¬ c) (k : EvB f p) : EvB (fun n => if c then g n else f n) p := by obtain ⟨b, h1, h2⟩ := k; exact ⟨b, h1, evNeg h h2⟩
theorem EvB.step {g f : Nat → Option Bool} (h : ∀ k, g (k + 1) = f k) (k : EvB f p) : EvB g p := by obtain ⟨b, h1, h2⟩ := k; exact ⟨b, h1, Ev.step h h2⟩
theorem EvB.bind {β : Type} {g : Nat → Option β} {f : Nat → β → Option Bool} {a : β} (h : Ev g a) (k : EvB (fun n => f n a) p) : EvB (fun n => (g n).bind (f n)) p := by obtain ⟨b, h1, h2⟩ := k; exact ⟨b, h1, Ev.bind h h2⟩
theorem EvB.bind0 {β : Type} {g : Option β} {f : Nat → β → Option Bool} {a : β} (h : g = some a) (k : EvB (fun n => f n a) p) : EvB (fun n => g.bind (f n)) p := by obtain ⟨b, h1, h2⟩ := k; exact ⟨b, h1, evBind0 h h2⟩
theorem EvB.yes (h : EvB g p) (hp : p) : Ev g true := by obtain ⟨b, h1, h2⟩ := h; rw [h1.2 hp] at h2; exact h2
theorem EvB.no (h : EvB g p) (hp : ¬ p) : Ev g false := by
  obtain ⟨b, h1, h2⟩ := h
  have : b = false := by cases b with
    | true => exact absurd (h1.1 rfl) hp
    | false => rfl
  rw [this] at h2; exact h2
end
end Go.Proofs.Ytbnkiikpolcpkaa.Qh
namespace Go.Proofs.Ytbnkiikpolcpkaa.Wo
open Go.RowKit Go.Proofs.Ytbnkiikpolcpkaa.PU Go.Proofs.Ytbnkiikpolcpkaa.Qh Go.Proofs.YtbnkiikpolcpkaaW.PrintWords Go.Proofs.YtbnkiikpolcpkaaW.PrintMore
set_option linter.unusedVariables false
set_option linter.unusedSimpArgs false
abbrev W := S47
def big : Nat := 4611686018427387904
def okM (x : Int) : Bool := decide (0 ≤ x ∧ x ≤ 20)
def okW (n : Nat) (w : W) : Bool := decide (0 ≤ w.f0 ∧ w.f0 < n ∧ 0 ≤ w.f1 ∧ w.f1 < n ∧ w.f0 ≠ w.f1 ∧ 1 ≤ w.f2 ∧ w.f2 ≤ 20)
def szOk (m : List Int) (l : List W) : Bool := decide (1 ≤ m.length ∧ m.length ≤ 4 ∧ l.length ≤ 7)
def wOk (m : List Int) (l : List W) : Bool := szOk m l && (m.all okM && l.all (okW m.length))
theorem l1In (a lo hi : Int) : spec_l1In.f a lo hi = some (decide (lo ≤ a ∧ a ≤ hi)) := by
  unfold spec_l1In.f
  by_cases h : a ≥ lo
  · rw [if_pos h]; have : lo ≤ a := h; simp [this]
  · rw [if_neg h]; have : ¬ lo ≤ a := h; simp [this]
theorem dropW (l : List W) (i : Nat) (h : i < l.length) : l.drop i = rd_T47 l (i : Int) :: l.drop (i + 1) := by
  have := drop_of l z47 i h
  simpa [rd_T47] using this
theorem all_dropW (l : List W) (p : W → Bool) (i : Nat) (h : i < l.length) : (l.drop i).all p = (p (rd_T47 l (i : Int)) && (l.drop (i + 1)).all p) := by
  rw [dropW l i h]; rfl
theorem all_dropI (l : List Int) (p : Int → Bool) (i : Nat) (h : i < l.length) : (l.drop i).all p = (p (rd l (i : Int)) && (l.drop (i + 1)).all p) := by
  rw [drop_rd l i h]; rfl
theorem s1 (m : List Int) (l : List W) (hm : m.length ≤ big) (hl : l.length ≤ big) : ∀ (d i : Nat), l.length - i = d → i ≤ l.length →
    Ev (fun k => spec_WaitsOk.l1 k m l (i : Int)) (szOk m l && (l.drop i).all (okW m.length)) := by
  unfold big at hm hl
  intro d
  induction d with
  | zero =>
    intro i hd hi
    obtain rfl : i = l.length := by omega
    refine Ev.step (fun k => by rw [spec_WaitsOk.l1]) ?_
    refine evNeg (by omega) ?_
    refine evBind0 (l1In _ _ _) ?_
    refine evIte (fun h => ?_) (fun h => ?_)
    · refine evNow ?_
      simp only [decide_eq_true_eq] at h
      have e : szOk m l = decide ((l.length : Int) ≤ 7) := by
        unfold szOk
        by_cases h7 : l.length ≤ 7
        · rw [decide_eq_true (by omega), decide_eq_true (by omega)]
        · rw [decide_eq_false (by omega), decide_eq_false (by omega)]
      simp [e]
    · refine evNow ?_
      simp only [decide_eq_true_eq] at h
      have e : szOk m l = false := by unfold szOk; rw [decide_eq_false (by omega)]
      simp [e]
  | succ d ih =>
    intro i hd hi
    have hlt : i < l.length := by omega
    have hr := ih (i + 1) (by omega) (by omega)
    rw [all_dropW l _ i hlt]
    have hw : wrap64 ((m.length : Int) - 1) = (m.length : Int) - 1 := w64 (by omega) (by omega)
    have hs : wrap64 ((i : Int) + 1) = ((i + 1 : Nat) : Int) := wsucc hlt (by omega)
    refine Ev.step (fun k => by rw [spec_WaitsOk.l1]) ?_
    generalize rd_T47 l (i : Int) = x at *
    refine evPos (by omega) (evPos (by omega) ?_)
    rw [hw, hs]
    repeat' first | refine evBind0 (l1In _ _ _) ?_ | refine evIte (fun h => ?_) (fun h => ?_)
    all_goals simp only [decide_eq_true_eq] at *
    all_goals first
      | exact evEq hr (by rw [show okW m.length x = true from decide_eq_true (by omega), Bool.true_and])
      | exact evNow (by rw [show okW m.length x = false from decide_eq_false (by omega), Bool.false_and, Bool.and_false])
theorem s0 (m : List Int) (l : List W) (hm : m.length ≤ big) (hl : l.length ≤ big) : ∀ (d i : Nat), m.length - i = d → i ≤ m.length →
    Ev (fun k => spec_WaitsOk.l0 k m l (i : Int)) (szOk m l && ((m.drop i).all okM && l.all (okW m.length))) := by
  intro d
  induction d with
  | zero =>
    intro i hd hi
    obtain rfl : i = m.length := by omega
    refine Ev.step (fun k => by rw [spec_WaitsOk.l0]) ?_
    refine evNeg (by omega) ?_
    exact evEq (s1 m l hm hl l.length 0 (by omega) (by omega)) (by simp)
  | succ d ih =>
    intro i hd hi
    have hlt : i < m.length := by omega
    have hr := ih (i + 1) (by omega) (by omega)
    rw [all_dropI m _ i hlt]
    have hs : wrap64 ((i : Int) + 1) = ((i + 1 : Nat) : Int) := wsucc hlt hm
    refine Ev.step (fun k => by rw [spec_WaitsOk.l0]) ?_
    generalize rd m (i : Int) = x at *
    refine evPos (by omega) (evPos (by omega) ?_)
    rw [hs]
    repeat' first | refine evBind0 (l1In _ _ _) ?_ | refine evIte (fun h => ?_) (fun h => ?_)
    all_goals simp only [decide_eq_true_eq] at *
    all_goals first
      | exact evEq hr (by rw [show okM x = true from decide_eq_true (by omega), Bool.true_and])
      | exact evNow (by rw [show okM x = false from decide_eq_false (by omega), Bool.false_and, Bool.false_and, Bool.and_false])
theorem spec (m : List Int) (l : List W) (hm : m.length ≤ big) (hl : l.length ≤ big) : Ev (fun k => spec_WaitsOk.f k m l) (wOk m l) :=
  s0 m l hm hl m.length 0 (by omega) (by omega)
theorem i1 (m : List Int) (l : List W) (hm : m.length ≤ big) (hl : l.length ≤ big) : ∀ (d i : Nat), l.length - i = d → i ≤ l.length →
    Ev (fun k => impl_areWaits.l1 k (m.length : Int) l (l.length : Int) (i : Int)) ((l.drop i).all (okW m.length)) := by
  intro d
  induction d with
  | zero =>
    intro i hd hi
    obtain rfl : i = l.length := by omega
    refine Ev.step (fun k => by rw [impl_areWaits.l1]) ?_
    refine evNeg (by omega) ?_
    exact evNow (by simp)
  | succ d ih =>
    intro i hd hi
    have hlt : i < l.length := by omega
    have hr := ih (i + 1) (by omega) (by omega)
    rw [all_dropW l _ i hlt]
    refine Ev.step (fun k => by rw [impl_areWaits.l1]) ?_
    generalize rd_T47 l (i : Int) = x at *
    have hs : wrap64 ((i : Int) + 1) = ((i + 1 : Nat) : Int) := wsucc hlt hl
    refine evPos (by omega) (evPos (by omega) (evPos (by omega) ?_))
    rw [hs]
    repeat' first | refine evIte (fun h => ?_) (fun h => ?_)
    all_goals first
      | exact evEq hr (by rw [show okW m.length x = true from decide_eq_true (by omega), Bool.true_and])
      | exact evNow (by rw [show okW m.length x = false from decide_eq_false (by omega), Bool.false_and])
theorem i0 (m : List Int) (l : List W) (hm : m.length ≤ big) (hl : l.length ≤ big) : ∀ (d i : Nat), m.length - i = d → i ≤ m.length →
    Ev (fun k => impl_areWaits.l0 k l (m.length : Int) m (m.length : Int) (i : Int)) ((m.drop i).all okM && l.all (okW m.length)) := by
  intro d
  induction d with
  | zero =>
    intro i hd hi
    obtain rfl : i = m.length := by omega
    refine Ev.step (fun k => by rw [impl_areWaits.l0]) ?_
    refine evNeg (by omega) ?_
    exact evEq (i1 m l hm hl l.length 0 (by omega) (by omega)) (by simp)
  | succ d ih =>
    intro i hd hi
    have hlt : i < m.length := by omega
    have hr := ih (i + 1) (by omega) (by omega)
    rw [all_dropI m _ i hlt]
    refine Ev.step (fun k => by rw [impl_areWaits.l0]) ?_
    generalize rd m (i : Int) = x at *
    have hs : wrap64 ((i : Int) + 1) = ((i + 1 : Nat) : Int) := wsucc hlt hm
    refine evPos (by omega) (evPos (by omega) (evPos (by omega) ?_))
    rw [hs]
    repeat' first | refine evIte (fun h => ?_) (fun h => ?_)
    all_goals first
      | exact evEq hr (by rw [show okM x = true from decide_eq_true (by omega), Bool.true_and])
      | exact evNow (by rw [show okM x = false from decide_eq_false (by omega), Bool.false_and, Bool.false_and])
theorem ij (m : List Int) (l : List W) (hm : m.length ≤ big) (hl : l.length ≤ big) (b : Bool) (hb : b = !szOk m l) :
    Ev (fun k => impl_areWaits.j0 k m l (m.length : Int) b) (wOk m l) := by
  refine Ev.step (fun k => by rw [impl_areWaits.j0]) ?_
  subst hb
  unfold wOk
  refine evIte (fun h => evNow ?_) (fun h => ?_)
  · have e : szOk m l = false := by simpa using h
    simp [e]
  · have e : szOk m l = true := by simpa using h
    exact evEq (i0 m l hm hl m.length 0 (by omega) (by omega)) (by simp [e])
theorem areWaits (m : List Int) (l : List W) (hm : m.length ≤ big) (hl : l.length ≤ big) : Ev (fun k => impl_areWaits.f k m l) (wOk m l) := by
  unfold impl_areWaits.f
  refine evIte (fun h => ij m l hm hl _ ?_) (fun h => evIte (fun h' => ij m l hm hl _ ?_) (fun h' => ij m l hm hl _ ?_))
  · rw [show szOk m l = false from decide_eq_false (by omega)]; rfl
  · rw [show szOk m l = false from decide_eq_false (by omega)]; rfl
  · by_cases h7 : l.length ≤ 7
    · rw [show szOk m l = true from decide_eq_true (by omega), decide_eq_false (by omega)]; rfl
    · rw [show szOk m l = false from decide_eq_false (by omega), decide_eq_true (by omega)]; rfl
theorem impl (m : List Int) (l : List W) (hm : m.length ≤ big) (hl : l.length ≤ big) : Ev (fun k => impl_WaitsOk.f k m l) (wOk m l) := by
  unfold impl_WaitsOk.f
  exact Ev.bind (areWaits m l hm hl) (Ev.now _)
end Go.Proofs.Ytbnkiikpolcpkaa.Wo
namespace Go.Proofs.Ytbnkiikpolcpkaa.Af
open Go.RowKit Go.Proofs.Ytbnkiikpolcpkaa.PU Go.Proofs.Ytbnkiikpolcpkaa.Qh Go.Proofs.Ytbnkiikpolcpkaa.Wo Go.Proofs.YtbnkiikpolcpkaaW.PrintWords Go.Proofs.YtbnkiikpolcpkaaW.PrintMore
set_option linter.unusedVariables false
set_option linter.unusedSimpArgs false
def Vw (n : Nat) (w : W) : Prop := 0 ≤ w.f0 ∧ w.f0 < n ∧ 0 ≤ w.f1 ∧ w.f1 < n ∧ w.f0 ≠ w.f1 ∧ 1 ≤ w.f2 ∧ w.f2 ≤ 20
def Lot (t : List Int) : Prop := ∀ x ∈ t, x = 0 ∨ x = 1
def pay (o : List Int) (w : W) (x : Int) : List Int := o.set w.f0.toNat (rd o w.f0 - w.f2 * x)
def stepA (o : List Int) (w : W) (x : Int) : List Int := (pay o w x).set w.f1.toNat (rd (pay o w x) w.f1 + w.f2 * x)
def aft (o : List Int) : List W → List Int → List Int
  | w :: l, x :: t => aft (stepA o w x) l t
  | _, _ => o
def eff (w : W) (x : Int) (j : Int) : Int := (if w.f1 = j then w.f2 * x else 0) - (if w.f0 = j then w.f2 * x else 0)
def effs : List W → List Int → Int → Int
  | w :: l, x :: t, j => eff w x j + effs l t j
  | _, _, _ => 0
theorem pay_len (o : List Int) (w : W) (x : Int) : (pay o w x).length = o.length := by simp [pay]
theorem step_len (o : List Int) (w : W) (x : Int) : (stepA o w x).length = o.length := by simp [stepA, pay]
theorem pay_rd (o : List Int) (w : W) (x : Int) (n : Nat) (hw : Vw n w) (ho : o.length = n) (j : Int) (hj : 0 ≤ j) : rd (pay o w x) j = if w.f0 = j then rd o j - w.f2 * x else rd o j := by
  unfold Vw at hw
  unfold pay
  rw [rd_set _ _ _ _ (by omega) (by omega) hj]
  by_cases e : w.f0 = j
  · rw [if_pos e, if_pos e, e]
  · rw [if_neg e, if_neg e]
theorem step_rd (o : List Int) (w : W) (x : Int) (n : Nat) (hw : Vw n w) (ho : o.length = n) (j : Int) (hj : 0 ≤ j) : rd (stepA o w x) j = rd o j + eff w x j := by
  have hw' := hw
  unfold Vw at hw'
  have hp := pay_len o w x
  unfold stepA
  rw [rd_set _ _ _ _ (by omega) (by omega) hj]
  unfold eff
  by_cases e : w.f1 = j
  · rw [if_pos e, if_pos e, pay_rd o w x n hw ho _ (by omega), if_neg (by omega), if_neg (by omega), e]; omega
  · rw [if_neg e, if_neg e, pay_rd o w x n hw ho _ hj]
    by_cases e2 : w.f0 = j
    · rw [if_pos e2, if_pos e2]; omega
    · rw [if_neg e2, if_neg e2]; omega
theorem step_zero (o : List Int) (w : W) (n : Nat) (hw : Vw n w) (ho : o.length = n) : stepA o w 0 = o := by
  refine ext_rd _ _ (step_len o w 0) (fun i _ => ?_)
  rw [step_rd o w 0 n hw ho _ (by omega)]
  simp [eff]
def Bd (o : List Int) (c : Int) : Prop := ∀ j : Int, 0 ≤ j → -c ≤ rd o j ∧ rd o j ≤ c
theorem eff_bd (w : W) (n : Nat) (hw : Vw n w) (x : Int) (hx : x = 0 ∨ x = 1) (j : Int) : -20 ≤ eff w x j ∧ eff w x j ≤ 20 := by
  unfold Vw at hw
  unfold eff
  rcases hx with rfl | rfl
  · simp
  · by_cases e : w.f1 = j
    · rw [if_pos e, if_neg (by omega)]; omega
    · rw [if_neg e]
      by_cases e2 : w.f0 = j
      · rw [if_pos e2]; omega
      · rw [if_neg e2]; omega
theorem step_bd (o : List Int) (w : W) (x : Int) (n : Nat) (hw : Vw n w) (ho : o.length = n) (hx : x = 0 ∨ x = 1) (c : Int) (h : Bd o c) : Bd (stepA o w x) (c + 20) := by
  intro j hj
  rw [step_rd o w x n hw ho j hj]
  have := h j hj
  have := eff_bd w n hw x hx j
  omega
theorem aft_len : ∀ (l : List W) (t o : List Int), (aft o l t).length = o.length
  | [], t, o => by unfold aft; rfl
  | _ :: _, [], o => rfl
  | w :: l, x :: t, o => by show (aft (stepA o w x) l t).length = _; rw [aft_len l t, step_len]
theorem aft_rd (n : Nat) : ∀ (l : List W) (t o : List Int), (∀ w ∈ l, Vw n w) → o.length = n → ∀ j : Int, 0 ≤ j → rd (aft o l t) j = rd o j + effs l t j
  | [], t, o, _, _, j, _ => by simp [aft, effs]
  | _ :: _, [], o, _, _, j, _ => by simp [aft, effs]
  | w :: l, x :: t, o, hv, ho, j, hj => by
    show rd (aft (stepA o w x) l t) j = _ + (eff w x j + effs l t j)
    rw [aft_rd n l t (stepA o w x) (fun v hv' => hv v (List.mem_cons_of_mem _ hv')) (by rw [step_len, ho]) j hj, step_rd o w x n (hv w List.mem_cons_self) ho j hj]
    omega
theorem mem_rdW (l : List W) (i : Nat) (h : i < l.length) : rd_T47 l (i : Int) ∈ l := getD_mem _ _ _ h
theorem mem_rd (l : List Int) (i : Nat) (h : i < l.length) : rd l (i : Int) ∈ l := getD_mem _ _ _ h
theorem impl_l (n : Nat) (l : List W) (t : List Int) (hv : ∀ w ∈ l, Vw n w) (ht : Lot t) (hlt : t.length = l.length) (h7 : l.length ≤ 8) : ∀ (d i : Nat) (o : List Int), l.length - i = d → i ≤ l.length → o.length = n → Bd o (20 + 20 * (i : Int)) →
    Ev (fun k => impl_afterLot.l0 k t o l (l.length : Int) (i : Int)) (aft o (l.drop i) (t.drop i)) := by
  intro d
  induction d with
  | zero =>
    intro i o hd hi ho hb
    obtain rfl : i = l.length := by omega
    refine Ev.step (fun k => by rw [impl_afterLot.l0]) ?_
    refine evNeg (by omega) (evNow ?_)
    rw [List.drop_length]; unfold aft; rfl
  | succ d ih =>
    intro i o hd hi ho hb
    have hilt : i < l.length := by omega
    have hw := hv _ (mem_rdW l i hilt)
    have hx := ht _ (mem_rd t i (by omega))
    rw [dropW l i hilt, drop_rd t i (by omega)]
    refine Ev.step (fun k => by rw [impl_afterLot.l0]) ?_
    have hs : wrap64 ((i : Int) + 1) = ((i + 1 : Nat) : Int) := wsucc hilt (by omega)
    rw [hs]
    generalize rd_T47 l (i : Int) = w at *
    generalize rd t (i : Int) = x at *
    have hw' := hw
    unfold Vw at hw'
    have b0 := hb w.f0 (by omega)
    have e1 : wrap64 (w.f2 * x) = w.f2 * x := by rcases hx with rfl | rfl <;> exact w64 (by omega) (by omega)
    have e2 : wrap64 (rd o w.f0 - w.f2 * x) = rd o w.f0 - w.f2 * x := by rcases hx with rfl | rfl <;> exact w64 (by omega) (by omega)
    have b1 : -200 ≤ rd (pay o w x) w.f1 ∧ rd (pay o w x) w.f1 ≤ 200 := by
      rw [pay_rd o w x n hw ho _ (by omega), if_neg (by omega)]
      have := hb w.f1 (by omega)
      omega
    have e3 : wrap64 (rd (pay o w x) w.f1 + w.f2 * x) = rd (pay o w x) w.f1 + w.f2 * x := by rcases hx with rfl | rfl <;> exact w64 (by omega) (by omega)
    rw [e1, e2]
    refine evPos (by omega) (evPos (by omega) (evPos (by omega) (evPos (by omega) (evPos (by omega) (evPos (by omega) (evBind0 rfl (evPos (by omega) (evPos (by omega) ?_))))))))
    rw [show o.set w.f0.toNat (rd o w.f0 - w.f2 * x) = pay o w x from rfl, e3]
    exact ih (i + 1) (stepA o w x) (by omega) (by omega) (by rw [step_len, ho]) (fun j hj => by
      have := step_bd o w x n hw ho hx _ hb j hj
      omega)
theorem impl (m : List Int) (l : List W) (t : List Int) (hm : m.length ≤ 4) (hv : ∀ w ∈ l, Vw m.length w) (ht : Lot t) (hlt : t.length = l.length) (h7 : l.length ≤ 8) (hb : Bd m 20) :
    Ev (fun k => impl_afterLot.f k m l t) (aft m l t) := by
  unfold impl_afterLot.f
  refine evBind0 rfl (evPos (by simp; omega) ?_)
  exact impl_l m.length l t hv ht hlt h7 l.length 0 _ (by omega) (by omega) (by simp) (by simpa using hb)
theorem spec_l (n : Nat) (l : List W) (t : List Int) (hv : ∀ w ∈ l, Vw n w) (ht : Lot t) (hlt : t.length = l.length) (h7 : l.length ≤ 8) : ∀ (d i : Nat) (o : List Int), l.length - i = d → i ≤ l.length → o.length = n → Bd o (20 + 20 * (i : Int)) →
    Ev (fun k => spec_l8After.l0 k l t o (i : Int)) (aft o (l.drop i) (t.drop i)) := by
  intro d
  induction d with
  | zero =>
    intro i o hd hi ho hb
    obtain rfl : i = l.length := by omega
    refine Ev.step (fun k => by rw [spec_l8After.l0]) ?_
    refine evNeg (by omega) (evNow ?_)
    rw [List.drop_length]; unfold aft; rfl
  | succ d ih =>
    intro i o hd hi ho hb
    have hilt : i < l.length := by omega
    have hw := hv _ (mem_rdW l i hilt)
    have hx := ht _ (mem_rd t i (by omega))
    rw [dropW l i hilt, drop_rd t i (by omega)]
    refine Ev.step (fun k => by rw [spec_l8After.l0]) ?_
    have hs : wrap64 ((i : Int) + 1) = ((i + 1 : Nat) : Int) := wsucc hilt (by omega)
    rw [hs]
    generalize rd_T47 l (i : Int) = w at *
    generalize rd t (i : Int) = x at *
    have hw' := hw
    unfold Vw at hw'
    have b0 := hb w.f0 (by omega)
    refine evPos (by omega) (evPos (by omega) (evPos (by omega) ?_))
    rcases hx with rfl | rfl
    · refine evNeg (by decide) ?_
      show Ev _ (aft (stepA o w 0) _ _)
      rw [step_zero o w n hw ho]
      exact ih (i + 1) o (by omega) (by omega) ho (fun j hj => by have := hb j hj; omega)
    · have e2 : wrap64 (rd o w.f0 - w.f2) = rd o w.f0 - w.f2 * 1 := by rw [w64 (by omega) (by omega)]; omega
      have b1 : -200 ≤ rd (pay o w 1) w.f1 ∧ rd (pay o w 1) w.f1 ≤ 200 := by
        rw [pay_rd o w 1 n hw ho _ (by omega), if_neg (by omega)]
        have := hb w.f1 (by omega)
        omega
      have e3 : wrap64 (rd (pay o w 1) w.f1 + w.f2) = rd (pay o w 1) w.f1 + w.f2 * 1 := by rw [w64 (by omega) (by omega)]; omega
      rw [e2]
      refine evPos rfl (evPos (by omega) (evPos (by omega) (evBind0 rfl (evPos (by omega) (evPos (by omega) ?_)))))
      rw [show o.set w.f0.toNat (rd o w.f0 - w.f2 * 1) = pay o w 1 from rfl, e3]
      exact ih (i + 1) (stepA o w 1) (by omega) (by omega) (by rw [step_len, ho]) (fun j hj => by
        have := step_bd o w 1 n hw ho (.inr rfl) _ hb j hj
        omega)
theorem spec (m : List Int) (l : List W) (t : List Int) (hm : m.length ≤ 4) (hv : ∀ w ∈ l, Vw m.length w) (ht : Lot t) (hlt : t.length = l.length) (h7 : l.length ≤ 8) (hb : Bd m 20) :
    Ev (fun k => spec_l8After.f k m l t) (aft m l t) := by
  unfold spec_l8After.f
  refine evBind0 rfl (evPos (by simp; omega) ?_)
  exact spec_l m.length l t hv ht hlt h7 l.length 0 _ (by omega) (by omega) (by simp) (by simpa using hb)
theorem of_wOk {m : List Int} {l : List W} (h : wOk m l = true) : 1 ≤ m.length ∧ m.length ≤ 4 ∧ l.length ≤ 7 ∧ (∀ w ∈ l, Vw m.length w) ∧ Bd m 20 ∧ (∀ j : Int, 0 ≤ j → 0 ≤ rd m j) := by
  simp only [wOk, szOk, Bool.and_eq_true, decide_eq_true_eq, List.all_eq_true] at h
  obtain ⟨⟨h1, h2, h3⟩, h4, h5⟩ := h
  have hr : ∀ j : Int, 0 ≤ j → 0 ≤ rd m j ∧ rd m j ≤ 20 := by
    intro j hj
    obtain ⟨i, rfl⟩ := Int.eq_ofNat_of_zero_le hj
    by_cases hi : i < m.length
    · have := h4 _ (mem_rd m i hi)
      simpa [okM] using this
    · have : rd m (i : Int) = 0 := by simp [rd, List.getD_eq_getElem?_getD, List.getElem?_eq_none (by omega : m.length ≤ i)]
      omega
  refine ⟨h1, h2, h3, fun w hw => ?_, fun j hj => by have := hr j hj; omega, fun j hj => (hr j hj).1⟩
  have := h5 w hw
  simpa [okW, Vw] using this
end Go.Proofs.Ytbnkiikpolcpkaa.Af
namespace Go.Proofs.Ytbnkiikpolcpkaa.Lt
open Go.RowKit Go.Proofs.Ytbnkiikpolcpkaa.PU Go.Proofs.Ytbnkiikpolcpkaa.Qh Go.Proofs.Ytbnkiikpolcpkaa.Wo Go.Proofs.Ytbnkiikpolcpkaa.Af Go.Proofs.YtbnkiikpolcpkaaW.PrintWords Go.Proofs.YtbnkiikpolcpkaaW.PrintMore
set_option linter.unusedVariables false
set_option linter.unusedSimpArgs false
abbrev fr (l : List W) (i : Nat) : Int := (rd_T47 l (i : Int)).f0
instance (t : List Int) : Decidable (Lot t) := inferInstanceAs (Decidable (∀ x ∈ t, x = 0 ∨ x = 1))
def PC (l : List W) (t : List Int) : Prop := ∀ i j : Nat, j < i → i < l.length → rd t (i : Int) = 1 → fr l j = fr l i → rd t (j : Int) = 1
def LOk (m : List Int) (l : List W) (t : List Int) : Prop := wOk m l = true ∧ (t.length = l.length ∧ Lot t) ∧ (∀ j : Nat, j < m.length → 0 ≤ rd (aft m l t) (j : Int)) ∧ PC l t
theorem lot01 {t : List Int} (ht : Lot t) (i : Nat) (h : i < t.length) : rd t (i : Int) = 0 ∨ rd t (i : Int) = 1 := ht _ (mem_rd t i h)
theorem idx_neg (p : Int → Bool) : ∀ (l : List Int) (i : Nat), (0 ≤ IndexFunc_isLot1.idx p l i ↔ ∃ x ∈ l, p x = true)
  | [], i => by simp [IndexFunc_isLot1.idx]
  | x :: l, i => by
    unfold IndexFunc_isLot1.idx
    by_cases h : p x = true
    · rw [if_pos h]; simp [h]
    · rw [if_neg h, idx_neg p l (i + 1)]; simp [h]
theorem isLot (l : List W) (t : List Int) : impl_isLot.f l t = some (decide (t.length = l.length ∧ Lot t)) := by
  unfold impl_isLot.f
  by_cases h : (t.length : Int) = (l.length : Int)
  · rw [if_pos h]
    unfold ContainsFunc_isLot1.f IndexFunc_isLot1.f
    simp only [Option.bind_some]
    congr 1
    have hi := idx_neg (fun x => (x != 0 && x != 1)) t 0
    by_cases hl : Lot t
    · have : ¬ (0 ≤ IndexFunc_isLot1.idx (fun x => (x != 0 && x != 1)) t 0) := by
        rw [hi]
        rintro ⟨x, hx, hp⟩
        rcases hl x hx with rfl | rfl <;> simp at hp
      rw [decide_eq_false this, decide_eq_true ⟨by omega, hl⟩]; rfl
    · have : 0 ≤ IndexFunc_isLot1.idx (fun x => (x != 0 && x != 1)) t 0 := by
        rw [hi]
        apply Classical.byContradiction
        intro hn
        apply hl
        intro x hx
        apply Classical.byContradiction
        intro hn2
        apply hn
        refine ⟨x, hx, ?_⟩
        have a : x ≠ 0 := fun e => hn2 (.inl e)
        have b : x ≠ 1 := fun e => hn2 (.inr e)
        simp [a, b]
      rw [decide_eq_true this, decide_eq_false (fun h => hl h.2)]; rfl
  · rw [if_neg h, decide_eq_false (by omega)]
theorem sl_l (l : List W) (t : List Int) (hb : t.length ≤ big) : ∀ (d i : Nat), t.length - i = d → i ≤ t.length → Ev (fun k => spec_l8Lot.l0 k l t (i : Int)) (decide (t.length = l.length ∧ Lot (t.drop i))) := by
  unfold big at hb
  intro d
  induction d with
  | zero =>
    intro i hd hi
    obtain rfl : i = t.length := by omega
    refine Ev.step (fun k => by rw [spec_l8Lot.l0]) ?_
    refine evNeg (by omega) (evNow ?_)
    congr 1
    rw [List.drop_length]
    by_cases e : t.length = l.length
    · rw [decide_eq_true ⟨e, fun x hx => by cases hx⟩, e]; simp
    · rw [decide_eq_false (fun h => e h.1)]; simp; omega
  | succ d ih =>
    intro i hd hi
    have hlt : i < t.length := by omega
    have hr := ih (i + 1) (by omega) (by omega)
    have hs : wrap64 ((i : Int) + 1) = ((i + 1 : Nat) : Int) := wsucc hlt (by omega)
    rw [drop_rd t i hlt]
    refine Ev.step (fun k => by rw [spec_l8Lot.l0]) ?_
    generalize rd t (i : Int) = x at *
    rw [hs]
    refine evPos (by omega) (evPos (by omega) (evBind0 (l1In _ _ _) ?_))
    by_cases hx : 0 ≤ x ∧ x ≤ 1
    · refine evT (decide_eq_true hx) (evEq hr ?_)
      by_cases e : t.length = l.length ∧ Lot (t.drop (i + 1))
      · rw [decide_eq_true e, decide_eq_true ⟨e.1, fun y hy => by
          rcases List.mem_cons.1 hy with rfl | hy
          · omega
          · exact e.2 y hy⟩]
      · rw [decide_eq_false e, decide_eq_false (fun h => e ⟨h.1, fun y hy => h.2 y (List.mem_cons_of_mem _ hy)⟩)]
    · refine evF (decide_eq_false hx) (evNow ?_)
      rw [decide_eq_false (fun h => by have := h.2 x List.mem_cons_self; omega)]
theorem l8Lot (l : List W) (t : List Int) (hb : t.length ≤ big) : Ev (fun k => spec_l8Lot.f k l t) (decide (t.length = l.length ∧ Lot t)) := sl_l l t hb t.length 0 (by omega) (by omega)
def Bad (l : List W) (t : List Int) (i j : Nat) : Prop := rd t (i : Int) = 1 ∧ rd t (j : Int) = 0 ∧ fr l j = fr l i
def Fine (l : List W) (t : List Int) (i : Nat) : Prop := ∀ i', i ≤ i' → i' < l.length → ∀ j, j < i' → ¬ Bad l t i' j
theorem s12 (l : List W) (t : List Int) (h7 : l.length ≤ 8) (hlt : t.length = l.length) : ∀ (d i : Nat), l.length - i = d → i ≤ l.length → EvB (fun k => spec_LotOk.l1 k l t (i : Int)) (Fine l t i) := by
  intro d
  induction d with
  | zero =>
    intro i hd hi
    refine EvB.step (fun k => by rw [spec_LotOk.l1]) ?_
    exact EvB.neg (by omega) (EvB.tt (fun i' h1 h2 => by omega))
  | succ d ih =>
    intro i hd hi
    have hilt : i < l.length := by omega
    have hr := ih (i + 1) (by omega) (by omega)
    have hs : wrap64 ((i : Int) + 1) = ((i + 1 : Nat) : Int) := wsucc hilt (by omega)
    have inner : ∀ (e j : Nat), i - j = e → j ≤ i → EvB (fun k => spec_LotOk.l2 k l t (i : Int) (j : Int)) ((∀ j', j ≤ j' → j' < i → ¬ Bad l t i j') ∧ Fine l t (i + 1)) := by
      intro e
      induction e with
      | zero =>
        intro j he hj
        refine EvB.step (fun k => by rw [spec_LotOk.l2]) ?_
        rw [hs]
        exact EvB.neg (by omega) (hr.congr ⟨fun h => ⟨fun j' h1 h2 => by omega, h⟩, fun h => h.2⟩)
      | succ e ihe =>
        intro j he hj
        have hjs : wrap64 ((j : Int) + 1) = ((j + 1 : Nat) : Int) := wsucc (show j < l.length by omega) (by omega)
        have hn := ihe (j + 1) (by omega) (by omega)
        have hgo : ¬ Bad l t i j → EvB (fun k => spec_LotOk.l2 k l t (i : Int) ((j + 1 : Nat) : Int)) ((∀ j', j ≤ j' → j' < i → ¬ Bad l t i j') ∧ Fine l t (i + 1)) := fun hb =>
          hn.congr ⟨fun h => ⟨fun j' h1 h2 => by
            by_cases ej : j' = j
            · subst ej; exact hb
            · exact h.1 j' (by omega) h2, h.2⟩, fun h => ⟨fun j' h1 h2 => h.1 j' (by omega) h2, h.2⟩⟩
        refine EvB.step (fun k => by rw [spec_LotOk.l2]) ?_
        rw [hjs]
        refine EvB.pos (by omega) (EvB.pos (by omega) (EvB.pos (by omega) ?_))
        by_cases h1 : rd t (i : Int) = 1
        · refine EvB.pos h1 (EvB.pos (by omega) (EvB.pos (by omega) ?_))
          by_cases h0 : rd t (j : Int) = 0
          · refine EvB.pos h0 (EvB.pos (by omega) (EvB.pos (by omega) ?_))
            by_cases hf : (rd_T47 l (j : Int)).f0 = (rd_T47 l (i : Int)).f0
            · exact EvB.pos hf (EvB.ff (fun h => h.1 j (Nat.le_refl _) (by omega) ⟨h1, h0, hf⟩))
            · exact EvB.neg hf (hgo (fun h => hf h.2.2))
          · exact EvB.neg h0 (hgo (fun h => h0 h.2.1))
        · exact EvB.neg h1 (hgo (fun h => h1 h.1))
    refine EvB.step (fun k => by rw [spec_LotOk.l1]) ?_
    refine EvB.pos (by omega) ((inner i 0 (by omega) (by omega)).congr ⟨fun h i' h1 h2 j hj => ?_, fun h => ⟨fun j' _ h2 => h i (Nat.le_refl _) hilt j' h2, fun i' h1 h2 => h i' (by omega) h2⟩⟩)
    by_cases ei : i' = i
    · subst ei; exact h.1 j (by omega) hj
    · exact h.2 i' (by omega) h2 j hj
theorem fine_pc {l : List W} {t : List Int} (ht : Lot t) (hlt : t.length = l.length) : Fine l t 0 ↔ PC l t := by
  constructor
  · intro h i j hj hi h1 hf
    rcases lot01 ht j (by omega) with h0 | h0
    · exact absurd ⟨h1, h0, hf⟩ (h i (Nat.zero_le _) hi j hj)
    · exact h0
  · intro h i _ hi j hj hb
    have := h i j hj hi hb.1 hb.2.2
    have := hb.2.1
    omega
theorem s0 (l : List W) (t o : List Int) (h7 : l.length ≤ 8) (hlt : t.length = l.length) (ho : o.length ≤ 8) : ∀ (d j : Nat), o.length - j = d → j ≤ o.length →
    EvB (fun k => spec_LotOk.l0 k l t o (j : Int)) ((∀ j' : Nat, j ≤ j' → j' < o.length → 0 ≤ rd o (j' : Int)) ∧ Fine l t 0) := by
  intro d
  induction d with
  | zero =>
    intro j hd hj
    refine EvB.step (fun k => by rw [spec_LotOk.l0]) ?_
    exact EvB.neg (by omega) ((s12 l t h7 hlt l.length 0 (by omega) (by omega)).congr ⟨fun h => ⟨fun j' h1 h2 => by omega, h⟩, fun h => h.2⟩)
  | succ d ih =>
    intro j hd hj
    have hjs : wrap64 ((j : Int) + 1) = ((j + 1 : Nat) : Int) := wsucc (show j < o.length by omega) (by omega)
    refine EvB.step (fun k => by rw [spec_LotOk.l0]) ?_
    rw [hjs]
    refine EvB.pos (by omega) (EvB.pos (by omega) ?_)
    by_cases h : rd o (j : Int) < 0
    · exact EvB.pos h (EvB.ff (fun hh => by have := hh.1 j (Nat.le_refl _) (by omega); omega))
    · refine EvB.neg h ((ih (j + 1) (by omega) (by omega)).congr ⟨fun hh => ⟨fun j' h1 h2 => ?_, hh.2⟩, fun hh => ⟨fun j' h1 h2 => hh.1 j' (by omega) h2, hh.2⟩⟩)
      by_cases e : j' = j
      · subst e; omega
      · exact hh.1 j' (by omega) h2
theorem spec (m : List Int) (l : List W) (t : List Int) (hm : m.length ≤ big) (hl : l.length ≤ big) (ht : t.length ≤ big) : EvB (fun k => spec_LotOk.f k m l t) (LOk m l t) := by
  unfold spec_LotOk.f
  refine EvB.bind (Wo.spec m l hm hl) ?_
  cases hw : wOk m l with
  | false =>
    refine EvB.neg (by decide) (EvB.step (fun k => by rw [spec_LotOk.j0]) (EvB.pos rfl (EvB.ff (fun h => ?_))))
    have := h.1; rw [hw] at this; cases this
  | true =>
    obtain ⟨h1, h4, h7, hv, hbd, _⟩ := of_wOk hw
    refine EvB.pos rfl (EvB.bind (l8Lot l t ht) (EvB.step (fun k => by rw [spec_LotOk.j0]) ?_))
    by_cases hL : t.length = l.length ∧ Lot t
    · refine EvB.neg (by rw [decide_eq_true hL]; decide) (EvB.bind (Af.spec m l t h4 hv hL.2 hL.1 (by omega) hbd) ?_)
      refine (s0 l t (aft m l t) (by omega) hL.1 (by rw [aft_len]; omega) _ 0 rfl (by omega)).congr ?_
      rw [fine_pc hL.2 hL.1, aft_len]
      exact ⟨fun h => ⟨hw, hL, fun j hj => h.1 j (Nat.zero_le _) hj, h.2⟩, fun h => ⟨fun j _ hj => h.2.2.1 j hj, h.2.2.2⟩⟩
    · exact EvB.pos (by rw [decide_eq_false hL]; rfl) (EvB.ff (fun h => hL h.2.1))
theorem rdW_take (l : List W) (i j : Nat) (h : j < i) : rd_T47 (l.take i) (j : Int) = rd_T47 l (j : Int) := by
  simp [rd_T47, List.getD_eq_getElem?_getD, List.getElem?_take, h]
def First (l : List W) (t : List Int) (i j : Nat) : Prop := ∀ j', j ≤ j' → j' < i → fr l j' = fr l i → rd t (j' : Int) ≠ 0
theorem first_l (l : List W) (t : List Int) (i : Nat) (h7 : l.length ≤ 8) (hlt : t.length = l.length) (hi : i < l.length) : ∀ (d j : Nat), i - j = d → j ≤ i →
    EvB (fun k => impl_isFirst.l0 k l t (i : Int) (l.take i) ((l.take i).length : Int) (j : Int)) (First l t i j) := by
  have hlen : (l.take i).length = i := by rw [List.length_take]; omega
  rw [hlen]
  intro d
  induction d with
  | zero =>
    intro j hd hj
    refine EvB.step (fun k => by rw [impl_isFirst.l0]) ?_
    exact EvB.neg (by omega) (EvB.tt (fun j' h1 h2 => by omega))
  | succ d ih =>
    intro j hd hj
    have hjs : wrap64 ((j : Int) + 1) = ((j + 1 : Nat) : Int) := wsucc (show j < l.length by omega) (by omega)
    have hn := ih (j + 1) (by omega) (by omega)
    have hgo : (fr l j = fr l i → rd t (j : Int) ≠ 0) → EvB (fun k => impl_isFirst.l0 k l t (i : Int) (l.take i) (i : Int) ((j + 1 : Nat) : Int)) (First l t i j) := fun hb =>
      hn.congr ⟨fun h j' h1 h2 => by
        by_cases e : j' = j
        · subst e; exact hb
        · exact h j' (by omega) h2, fun h j' h1 h2 => h j' (by omega) h2⟩
    refine EvB.step (fun k => by rw [impl_isFirst.l0]) ?_
    rw [hjs, rdW_take l i j (by omega)]
    refine EvB.pos (by omega) (EvB.pos (by omega) (EvB.pos (by omega) (EvB.pos (by omega) (EvB.pos (by omega) ?_))))
    by_cases hf : (rd_T47 l (j : Int)).f0 = (rd_T47 l (i : Int)).f0
    · refine EvB.pos hf (EvB.pos (by omega) ?_)
      by_cases h0 : rd t (j : Int) = 0
      · exact EvB.pos h0 (EvB.ff (fun h => h j (Nat.le_refl _) (by omega) hf h0))
      · exact EvB.neg h0 (hgo (fun _ => h0))
    · exact EvB.neg hf (hgo (fun h => absurd h hf))
theorem first (l : List W) (t : List Int) (i : Nat) (h7 : l.length ≤ 8) (hlt : t.length = l.length) (hi : i < l.length) : EvB (fun k => impl_isFirst.f k l t (i : Int)) (First l t i 0) := by
  unfold impl_isFirst.f
  exact EvB.pos (by omega) (EvB.pos (by omega) (EvB.bind0 rfl (first_l l t i h7 hlt hi i 0 (by omega) (by omega))))
theorem min_l (o : List Int) (ho : o.length ≤ 8) : ∀ (d j : Nat) (v : Int), o.length - j = d → j ≤ o.length → (v < 0 ↔ ∃ j' : Nat, j' < j ∧ rd o (j' : Int) < 0) →
    ∃ v', (v' < 0 ↔ ∃ j' : Nat, j' < o.length ∧ rd o (j' : Int) < 0) ∧ Ev (fun k => slices_Min_int_int.l0 k o v (j : Int)) v' := by
  intro d
  induction d with
  | zero =>
    intro j v hd hj hv
    obtain rfl : j = o.length := by omega
    refine ⟨v, hv, Ev.step (fun k => by rw [slices_Min_int_int.l0]) ?_⟩
    exact evNeg (by omega) (Ev.now _)
  | succ d ih =>
    intro j v hd hj hv
    have hjs : wrap64 ((j : Int) + 1) = ((j + 1 : Nat) : Int) := wsucc (show j < o.length by omega) (by omega)
    obtain ⟨v', h1, h2⟩ := ih (j + 1) (mn v (rd o (j : Int))) (by clear hv; omega) (by clear hv; omega) (by
      constructor
      · intro h
        by_cases h0 : rd o (j : Int) < 0
        · exact ⟨j, by omega, h0⟩
        · obtain ⟨j', a, b⟩ := hv.1 (by clear hv; unfold mn at h; split at h <;> omega)
          exact ⟨j', by omega, b⟩
      · rintro ⟨j', a, b⟩
        unfold mn
        by_cases e : j' = j
        · subst e; split <;> omega
        · have := hv.2 ⟨j', by omega, b⟩
          split <;> omega)
    refine ⟨v', h1, Ev.step (fun k => by rw [slices_Min_int_int.l0]) ?_⟩
    rw [hjs]
    clear hv h1
    exact evPos (by omega) (evPos (by omega) h2)
theorem min (o : List Int) (ho : o.length ≤ 8) (h1 : 1 ≤ o.length) : ∃ v', (v' < 0 ↔ ∃ j' : Nat, j' < o.length ∧ rd o (j' : Int) < 0) ∧ Ev (fun k => slices_Min_int_int.f k o) v' := by
  obtain ⟨v', a, b⟩ := min_l o ho (o.length - 1) 1 (rd o 0) (by omega) h1 (by
    constructor
    · intro h; exact ⟨0, by omega, h⟩
    · rintro ⟨j', a, b⟩
      have : j' = 0 := by omega
      subst this; exact b)
  refine ⟨v', a, ?_⟩
  unfold slices_Min_int_int.f
  exact evNeg (by omega) (evPos (by omega) b)
theorem i0 (l : List W) (t : List Int) (h7 : l.length ≤ 8) (hlt : t.length = l.length) : ∀ (d i : Nat), l.length - i = d → i ≤ l.length →
    EvB (fun k => impl_LotOk.l0 k l t t (t.length : Int) (i : Int)) (∀ i', i ≤ i' → i' < l.length → rd t (i' : Int) = 1 → First l t i' 0) := by
  intro d
  induction d with
  | zero =>
    intro i hd hi
    refine EvB.step (fun k => by rw [impl_LotOk.l0]) ?_
    exact EvB.neg (by omega) (EvB.tt (fun i' h1 h2 => by omega))
  | succ d ih =>
    intro i hd hi
    have hilt : i < l.length := by omega
    have hs : wrap64 ((i : Int) + 1) = ((i + 1 : Nat) : Int) := wsucc hilt (by omega)
    have hn := ih (i + 1) (by omega) (by omega)
    have hgo : (rd t (i : Int) = 1 → First l t i 0) → EvB (fun k => impl_LotOk.l0 k l t t (t.length : Int) ((i + 1 : Nat) : Int)) (∀ i', i ≤ i' → i' < l.length → rd t (i' : Int) = 1 → First l t i' 0) := fun hb =>
      hn.congr ⟨fun h i' h1 h2 => by
        by_cases e : i' = i
        · subst e; exact hb
        · exact h i' (by omega) h2, fun h i' h1 h2 => h i' (by omega) h2⟩
    refine EvB.step (fun k => by rw [impl_LotOk.l0]) ?_
    rw [hs]
    refine EvB.pos (by omega) (EvB.pos (by omega) (EvB.pos (by omega) ?_))
    by_cases h1 : rd t (i : Int) = 1
    · refine EvB.pos h1 ?_
      have hf := first l t i h7 hlt hilt
      by_cases hF : First l t i 0
      · exact EvB.bind (hf.yes hF) (EvB.pos rfl (hgo (fun _ => hF)))
      · exact EvB.bind (hf.no hF) (EvB.neg (by decide) (EvB.ff (fun h => hF (h i (Nat.le_refl _) hilt h1))))
    · exact EvB.neg h1 (hgo (fun h => absurd h h1))
theorem first_pc {l : List W} {t : List Int} (ht : Lot t) (hlt : t.length = l.length) : (∀ i', 0 ≤ i' → i' < l.length → rd t (i' : Int) = 1 → First l t i' 0) ↔ PC l t := by
  constructor
  · intro h i j hj hi h1 hf
    rcases lot01 ht j (by omega) with h0 | h0
    · exact absurd h0 (h i (Nat.zero_le _) hi h1 j (Nat.zero_le _) hj hf)
    · exact h0
  · intro h i _ hi h1 j _ hj hf
    have := h i j hj hi h1 hf
    omega
theorem impl (m : List Int) (l : List W) (t : List Int) (hm : m.length ≤ big) (hl : l.length ≤ big) : EvB (fun k => impl_LotOk.f k m l t) (LOk m l t) := by
  unfold impl_LotOk.f
  refine EvB.bind (Wo.areWaits m l hm hl) ?_
  have bad : ∀ b : Bool, b = true → ¬ LOk m l t → EvB (fun k => impl_LotOk.j0 k l t b) (LOk m l t) := fun b hb hn => by
    subst hb
    exact EvB.step (fun k => by rw [impl_LotOk.j0]) (EvB.pos rfl (EvB.ff hn))
  cases hw : wOk m l with
  | false => exact EvB.neg (by decide) (bad _ rfl (fun h => by have := h.1; rw [hw] at this; cases this))
  | true =>
    obtain ⟨h1, h4, h7, hv, hbd, _⟩ := of_wOk hw
    refine EvB.pos rfl (EvB.bind0 (isLot l t) ?_)
    by_cases hL : t.length = l.length ∧ Lot t
    · refine EvB.pos (decide_eq_true hL) (EvB.bind (Af.impl m l t h4 hv hL.2 hL.1 (by omega) hbd) ?_)
      obtain ⟨v, hv1, hv2⟩ := min (aft m l t) (by rw [aft_len]; omega) (by rw [aft_len]; omega)
      rw [aft_len] at hv1
      refine EvB.bind hv2 ?_
      by_cases hneg : v < 0
      · refine bad _ (decide_eq_true hneg) (fun h => ?_)
        obtain ⟨j, a, b⟩ := hv1.1 hneg
        have := h.2.2.1 j a
        omega
      · refine EvB.step (fun k => by rw [impl_LotOk.j0]) (EvB.neg (by rw [decide_eq_false hneg]; decide) ?_)
        refine (i0 l t (by omega) hL.1 l.length 0 (by omega) (by omega)).congr ?_
        rw [first_pc hL.2 hL.1]
        refine ⟨fun h => ⟨hw, hL, fun j hj => ?_, h⟩, fun h => h.2.2.2⟩
        apply Classical.byContradiction
        intro hn
        exact hneg (hv1.2 ⟨j, hj, by omega⟩)
    · exact EvB.neg (by rw [decide_eq_false hL]; decide) (bad _ rfl (fun h => hL h.2.1))
end Go.Proofs.Ytbnkiikpolcpkaa.Lt
namespace Go.Proofs.Ytbnkiikpolcpkaa.Al2
open Go.RowKit Go.Proofs.Ytbnkiikpolcpkaa.PU Go.Proofs.Ytbnkiikpolcpkaa.Qh Go.Proofs.Ytbnkiikpolcpkaa.Wo Go.Proofs.Ytbnkiikpolcpkaa.Af Go.Proofs.Ytbnkiikpolcpkaa.Lt Go.Proofs.YtbnkiikpolcpkaaW.PrintWords Go.Proofs.YtbnkiikpolcpkaaW.PrintMore
set_option linter.unusedVariables false
set_option linter.unusedSimpArgs false
theorem both (m : List Int) (l : List W) (t : List Int) (hm : m.length ≤ big) (hl : l.length ≤ big) (ht : t.length ≤ big) :
    ∃ r, ((wOk m l = true ∧ t.length = l.length ∧ Lot t) → r = aft m l t) ∧ (¬ (wOk m l = true ∧ t.length = l.length ∧ Lot t) → r = []) ∧ Ev (fun k => impl_AfterLot.f k m l t) r ∧ Ev (fun k => spec_AfterLot.f k m l t) r := by
  have wi := Wo.areWaits m l hm hl
  have ws := Wo.spec m l hm hl
  have li := isLot l t
  have ls := l8Lot l t ht
  unfold impl_AfterLot.f spec_AfterLot.f
  cases hw : wOk m l with
  | false =>
    rw [hw] at wi ws
    exact ⟨[], fun h => by simp at h, fun _ => rfl, Ev.bind wi (evF rfl (Ev.now _)), Ev.bind ws (evF rfl (Ev.now _))⟩
  | true =>
    rw [hw] at wi ws
    obtain ⟨h1, h4, h7, hv, hbd, _⟩ := of_wOk hw
    by_cases hL : t.length = l.length ∧ Lot t
    · refine ⟨aft m l t, fun _ => rfl, fun h => absurd ⟨rfl, hL⟩ h, Ev.bind wi (evT rfl (evBind0 li (evT (decide_eq_true hL) ?_))), Ev.bind ws (evT rfl (Ev.bind ls (evT (decide_eq_true hL) ?_)))⟩
      · exact Ev.bind (Af.impl m l t h4 hv hL.2 hL.1 (by omega) hbd) (Ev.now _)
      · exact Ev.bind (Af.spec m l t h4 hv hL.2 hL.1 (by omega) hbd) (Ev.now _)
    · exact ⟨[], fun h => absurd h.2 hL, fun _ => rfl, Ev.bind wi (evT rfl (evBind0 li (evF (decide_eq_false hL) (Ev.now _)))), Ev.bind ws (evT rfl (Ev.bind ls (evF (decide_eq_false hL) (Ev.now _))))⟩
end Go.Proofs.Ytbnkiikpolcpkaa.Al2
namespace Go.Proofs.Ytbnkiikpolcpkaa.Ob
open Go.RowKit Go.Proofs.Ytbnkiikpolcpkaa.PU Go.Proofs.Ytbnkiikpolcpkaa.Qh Go.Proofs.Ytbnkiikpolcpkaa.Wo Go.Proofs.Ytbnkiikpolcpkaa.Af Go.Proofs.Ytbnkiikpolcpkaa.Lt Go.Proofs.YtbnkiikpolcpkaaW.PrintWords Go.Proofs.YtbnkiikpolcpkaaW.PrintMore
set_option linter.unusedVariables false
set_option linter.unusedSimpArgs false
abbrev am (l : List W) (i : Nat) : Int := (rd_T47 l (i : Int)).f2
theorem aft_bd (n : Nat) : ∀ (l : List W) (t o : List Int) (c : Int), (∀ w ∈ l, Vw n w) → Lot t → o.length = n → Bd o c → Bd (aft o l t) (c + 20 * l.length)
  | [], t, o, c, _, _, _, h => by intro j hj; have := h j hj; unfold aft; simp; omega
  | _ :: l, [], o, c, _, _, _, h => by intro j hj; have := h j hj; simp [aft]; omega
  | w :: l, x :: t, o, c, hv, ht, ho, h => by
    have := aft_bd n l t (stepA o w x) (c + 20) (fun v hv' => hv v (List.mem_cons_of_mem _ hv')) (fun y hy => ht y (List.mem_cons_of_mem _ hy)) (by rw [step_len, ho]) (step_bd o w x n (hv w List.mem_cons_self) ho (ht x List.mem_cons_self) c h)
    intro j hj
    have := this j hj
    show _ ≤ rd (aft (stepA o w x) l t) j ∧ rd (aft (stepA o w x) l t) j ≤ _
    simp only [List.length_cons]
    omega
theorem effs_set (j : Int) : ∀ (l : List W) (t : List Int) (i : Nat), i < l.length → t.length = l.length → rd t (i : Int) = 0 → effs l (t.set i 1) j = effs l t j + eff (rd_T47 l (i : Int)) 1 j
  | [], t, i, h, _, _ => by simp at h
  | w :: l, [], i, _, h, _ => by simp at h
  | w :: l, x :: t, 0, _, _, h0 => by
    have : x = 0 := by simpa [rd] using h0
    subst this
    have e : rd_T47 (w :: l) ((0 : Nat) : Int) = w := by simp [rd_T47]
    rw [e]
    show eff w 1 j + effs l t j = eff w 0 j + effs l t j + eff w 1 j
    have : eff w 0 j = 0 := by simp [eff]
    omega
  | w :: l, x :: t, i + 1, h, hl, h0 => by
    have := effs_set j l t i (by simpa using h) (by simpa using hl) (by simpa [rd] using h0)
    have e : rd_T47 (w :: l) ((i + 1 : Nat) : Int) = rd_T47 l (i : Int) := by simp [rd_T47]
    rw [e]
    show eff w x j + effs l (t.set i 1) j = eff w x j + effs l t j + eff _ 1 j
    omega
theorem count_set : ∀ (t : List Int) (i : Nat), i < t.length → rd t (i : Int) = 0 → (t.set i 1).count 0 + 1 = t.count 0
  | [], i, h, _ => by simp at h
  | x :: t, 0, _, h => by
    have : x = 0 := by simpa [rd] using h
    subst this
    simp
  | x :: t, i + 1, h, h1 => by
    have := count_set t i (by simpa using h) (by simpa [rd] using h1)
    rw [List.set_cons_succ, List.count_cons, List.count_cons]
    omega
theorem set_rd (t : List Int) (v : Int) (i j : Nat) (h : i < t.length) : rd (t.set i v) (j : Int) = if i = j then v else rd t (j : Int) := by
  have := rd_set t v (i : Int) (j : Int) (by omega) (by omega) (by omega)
  rw [Int.toNat_natCast] at this
  rw [this]
  by_cases e : i = j
  · rw [if_pos (by omega), if_pos e]
  · rw [if_neg (by omega), if_neg e]
structure J (m : List Int) (l : List W) (t : List Int) : Prop where
  len : t.length = l.length
  lot : Lot t
  pc : PC l t
  pos : ∀ j : Nat, j < m.length → 0 ≤ rd (aft m l t) (j : Int)
def Feas (m : List Int) (l : List W) (t : List Int) (i : Nat) : Prop := rd t (i : Int) ≠ 1 ∧ am l i ≤ rd (aft m l t) (fr l i) ∧ First l t i 0
def Post (m : List Int) (l : List W) (r : List Int) : Prop := J m l r ∧ ∀ i, i < l.length → ¬ Feas m l r i
theorem next_aft {m : List Int} {l : List W} {t : List Int} (hv : ∀ w ∈ l, Vw m.length w) (h : J m l t) {i : Nat} (hi : i < l.length) (h0 : rd t (i : Int) = 0) : aft m l (t.set i 1) = stepA (aft m l t) (rd_T47 l (i : Int)) 1 := by
  refine ext_rd _ _ (by rw [aft_len, step_len, aft_len]) (fun j _ => ?_)
  rw [step_rd _ _ _ m.length (hv _ (mem_rdW l i hi)) (by rw [aft_len]) _ (by omega), aft_rd m.length l _ m hv rfl _ (by omega), aft_rd m.length l _ m hv rfl _ (by omega), effs_set _ l t i hi h.len h0]
  omega
theorem next_J {m : List Int} {l : List W} {t : List Int} (hv : ∀ w ∈ l, Vw m.length w) (h : J m l t) {i : Nat} (hi : i < l.length) (hf : Feas m l t i) : J m l (t.set i 1) := by
  have hil : i < t.length := by rw [h.len]; exact hi
  have h0 : rd t (i : Int) = 0 := by
    rcases lot01 h.lot i hil with a | a
    · exact a
    · exact absurd a hf.1
  refine ⟨by simp [h.len], ?_, ?_, ?_⟩
  · intro x hx
    rcases List.mem_or_eq_of_mem_set hx with hx | rfl
    · exact h.lot x hx
    · exact .inr rfl
  · intro i' j hj hi' h1' hf'
    rw [set_rd _ _ _ _ hil] at h1' ⊢
    by_cases e2 : i = j
    · rw [if_pos e2]
    · rw [if_neg e2]
      by_cases e : i = i'
      · subst e
        have := hf.2.2 j (Nat.zero_le _) hj hf'
        rcases lot01 h.lot j (by rw [h.len]; omega) with a | a
        · exact absurd a this
        · exact a
      · rw [if_neg e] at h1'
        exact h.pc i' j hj hi' h1' hf'
  · intro j hj
    rw [next_aft hv h hi h0]
    have hvi := hv _ (mem_rdW l i hi)
    rw [step_rd _ _ _ m.length hvi (by rw [aft_len]) _ (by omega)]
    have hp := h.pos j hj
    have hfe := hf.2.1
    unfold am fr at hfe
    generalize rd_T47 l (i : Int) = w at *
    unfold Vw at hvi
    unfold eff
    by_cases e1 : w.f0 = (j : Int)
    · rw [if_neg (show ¬ w.f1 = (j : Int) by omega), if_pos e1]
      rw [e1] at hfe
      omega
    · rw [if_neg e1]
      split <;> omega
theorem sp2 (m : List Int) (l : List W) (t : List Int) (fl : Bool) (i : Nat) (h7 : l.length ≤ 8) (hlen : t.length = l.length) (hi : i < l.length) (r : List Int) (hF : First l t i 0)
    (hr : Ev (fun k => spec_OneByOne.l1 k m l (t.set i 1) true ((i + 1 : Nat) : Int)) r) : ∀ (d j : Nat), i - j = d → j ≤ i → Ev (fun k => spec_OneByOne.l2 k m l t fl (i : Int) (j : Int)) r := by
  have his : wrap64 ((i : Int) + 1) = ((i + 1 : Nat) : Int) := wsucc hi (by omega)
  intro d
  induction d with
  | zero =>
    intro j hd hj
    refine Ev.step (fun k => by rw [spec_OneByOne.l2]) (evNeg (by omega) (evPos (by omega) (evPos (by omega) ?_)))
    rw [his, Int.toNat_natCast]
    exact hr
  | succ d ih =>
    intro j hd hj
    have hjs : wrap64 ((j : Int) + 1) = ((j + 1 : Nat) : Int) := wsucc (show j < l.length by omega) (by omega)
    have hn := ih (j + 1) (by omega) (by omega)
    refine Ev.step (fun k => by rw [spec_OneByOne.l2]) (evPos (by omega) (evPos (by omega) (evPos (by omega) ?_)))
    rw [hjs]
    by_cases h0 : rd t (j : Int) = 0
    · refine evPos h0 (evPos (by omega) (evPos (by omega) (evPos (by omega) (evNeg (fun hf => hF j (Nat.zero_le _) (by omega) hf h0) hn))))
    · exact evNeg h0 hn
theorem sp2_no (m : List Int) (l : List W) (t : List Int) (fl : Bool) (i : Nat) (h7 : l.length ≤ 8) (hlen : t.length = l.length) (hi : i < l.length) (r : List Int)
    (hr : Ev (fun k => spec_OneByOne.l1 k m l t fl ((i + 1 : Nat) : Int)) r) : ∀ (d j : Nat), i - j = d → j ≤ i → ¬ First l t i j → Ev (fun k => spec_OneByOne.l2 k m l t fl (i : Int) (j : Int)) r := by
  have his : wrap64 ((i : Int) + 1) = ((i + 1 : Nat) : Int) := wsucc hi (by omega)
  intro d
  induction d with
  | zero =>
    intro j hd hj hF
    exact absurd (fun j' h1 h2 => by omega) hF
  | succ d ih =>
    intro j hd hj hF
    have hjs : wrap64 ((j : Int) + 1) = ((j + 1 : Nat) : Int) := wsucc (show j < l.length by omega) (by omega)
    refine Ev.step (fun k => by rw [spec_OneByOne.l2]) (evPos (by omega) (evPos (by omega) (evPos (by omega) ?_)))
    rw [hjs, his]
    by_cases hb : rd t (j : Int) = 0 ∧ (rd_T47 l (j : Int)).f0 = (rd_T47 l (i : Int)).f0
    · exact evPos hb.1 (evPos (by omega) (evPos (by omega) (evPos (by omega) (evPos hb.2 hr))))
    · have hn := ih (j + 1) (by omega) (by omega) (fun h => hF (fun j' h1 h2 hf h0 => by
        by_cases e : j' = j
        · subst e; exact hb ⟨h0, hf⟩
        · exact h j' (by omega) h2 hf h0))
      by_cases h0 : rd t (j : Int) = 0
      · exact evPos h0 (evPos (by omega) (evPos (by omega) (evPos (by omega) (evNeg (fun hf => hb ⟨h0, hf⟩) hn))))
      · exact evNeg h0 hn
theorem pass {m : List Int} {l : List W} (hw : wOk m l = true) (C : Nat)
    (H : ∀ t, J m l t → t.count 0 < C → ∃ r, Post m l r ∧ Ev (fun k => impl_oneByOne.l0 k l (aft m l t) t true) r ∧ Ev (fun k => spec_OneByOne.l0 k m l t true) r) :
    ∀ (d i : Nat) (t : List Int) (fl : Bool), l.length - i = d → i ≤ l.length → J m l t → t.count 0 ≤ C → (fl = true → t.count 0 < C) → (fl = false → ∀ i', i' < i → ¬ Feas m l t i') →
      ∃ r, Post m l r ∧ Ev (fun k => impl_oneByOne.l1 k l (aft m l t) t fl l (l.length : Int) (i : Int)) r ∧ Ev (fun k => spec_OneByOne.l1 k m l t fl (i : Int)) r := by
  obtain ⟨h1, h4, h7, hv, hbd, hpos⟩ := of_wOk hw
  intro d
  induction d with
  | zero =>
    intro i t fl hd hi hJ hc hft hff
    obtain rfl : i = l.length := by omega
    cases fl with
    | true =>
      obtain ⟨r, a, b, c⟩ := H t hJ (hft rfl)
      exact ⟨r, a, Ev.step (fun k => by rw [impl_oneByOne.l1]) (evNeg (by omega) b), Ev.step (fun k => by rw [spec_OneByOne.l1]) (evNeg (by omega) c)⟩
    | false =>
      refine ⟨t, ⟨hJ, hff rfl⟩, Ev.step (fun k => by rw [impl_oneByOne.l1]) (evNeg (by omega) ?_), Ev.step (fun k => by rw [spec_OneByOne.l1]) (evNeg (by omega) ?_)⟩
      · exact Ev.step (fun k => by rw [impl_oneByOne.l0]) (evNeg (by decide) (Ev.now _))
      · exact Ev.step (fun k => by rw [spec_OneByOne.l0]) (evNeg (by decide) (Ev.now _))
  | succ d ih =>
    intro i t fl hd hi hJ hc hft hff
    have hilt : i < l.length := by omega
    have hlen := hJ.len
    have his : wrap64 ((i : Int) + 1) = ((i + 1 : Nat) : Int) := wsucc hilt (by omega)
    have hvi := hv _ (mem_rdW l i hilt)
    have hal := aft_len l t m
    have ha := Af.spec m l t h4 hv hJ.lot hJ.len (by omega) hbd
    have hab := aft_bd m.length l t m 20 hv hJ.lot rfl hbd
    have hfirst := first l t i (by omega) hlen hilt
    have hvi' := hvi
    unfold Vw at hvi'
    by_cases hF : Feas m l t i
    · -- it is done
      have h0 : rd t (i : Int) = 0 := by
        rcases lot01 hJ.lot i (by omega) with a | a
        · exact a
        · exact absurd a hF.1
      have hcs := count_set t i (by omega) h0
      obtain ⟨r, hr, e1, e2⟩ := ih (i + 1) (t.set i 1) true (by omega) (by omega) (next_J hv hJ hilt hF) (by omega) (fun _ => by omega) (fun h => by cases h)
      rw [next_aft hv hJ hilt h0] at e1
      refine ⟨r, hr, ?_, ?_⟩
      · refine Ev.step (fun k => by rw [impl_oneByOne.l1]) (evPos (by omega) (evPos (by omega) (evPos (by omega) (evPos (by omega) (evNeg (by omega) (Ev.bind (hfirst.yes hF.2.2) (evT rfl ?_)))))))
        have hfe := hF.2.1
        unfold am fr at hfe
        generalize rd_T47 l (i : Int) = w at *
        have b0 := hab w.f0 (by omega)
        refine evPos (by omega) (evPos (by omega) (evNeg (by omega) (evBind0 rfl ?_)))
        have x0 : wrap64 (rd (aft m l t) w.f0 - w.f2) = rd (aft m l t) w.f0 - w.f2 * 1 := by rw [w64 (by omega) (by omega)]; omega
        rw [x0, show (aft m l t).set w.f0.toNat (rd (aft m l t) w.f0 - w.f2 * 1) = pay (aft m l t) w 1 from rfl]
        have b1 := hab w.f1 (by omega)
        have x1 : wrap64 (rd (pay (aft m l t) w 1) w.f1 + w.f2) = rd (pay (aft m l t) w 1) w.f1 + w.f2 * 1 := by
          rw [pay_rd _ w 1 m.length hvi (by omega) _ (by omega), if_neg (by omega), w64 (by omega) (by omega)]; omega
        rw [x1, his, Int.toNat_natCast]
        exact evPos (by omega) (evPos (by omega) e1)
      · refine Ev.step (fun k => by rw [spec_OneByOne.l1]) (evPos (by omega) (evPos (by omega) (evPos (by omega) (evNeg (by omega) (Ev.bind ha ?_)))))
        have hfe := hF.2.1
        unfold am fr at hfe
        refine evPos (by omega) (evPos (by omega) ?_)
        rw [decide_eq_false (show ¬ rd (aft m l t) (rd_T47 l (i : Int)).f0 < (rd_T47 l (i : Int)).f2 by omega)]
        refine Ev.step (fun k => by rw [spec_OneByOne.j2]) (evNeg (by decide) ?_)
        exact sp2 m l t fl i (by omega) hlen hilt r hF.2.2 e2 i 0 (by omega) (by omega)
    · -- it is passed over
      obtain ⟨r, hr, e1, e2⟩ := ih (i + 1) t fl (by omega) (by omega) hJ hc hft (fun h i' hi' => by
        by_cases e : i' = i
        · subst e; exact hF
        · exact hff h i' (by omega))
      refine ⟨r, hr, ?_, ?_⟩
      · refine Ev.step (fun k => by rw [impl_oneByOne.l1]) (evPos (by omega) (evPos (by omega) (evPos (by omega) (evPos (by omega) ?_))))
        rw [his]
        by_cases h1' : rd t (i : Int) = 1
        · exact evPos h1' e1
        · refine evNeg h1' ?_
          by_cases hFi : First l t i 0
          · refine Ev.bind (hfirst.yes hFi) (evT rfl (evPos (by omega) (evPos (by omega) (evPos ?_ e1))))
            apply Classical.byContradiction
            intro hn
            exact hF ⟨h1', by unfold am fr; omega, hFi⟩
          · exact Ev.bind (hfirst.no hFi) (evF rfl e1)
      · refine Ev.step (fun k => by rw [spec_OneByOne.l1]) (evPos (by omega) (evPos (by omega) (evPos (by omega) ?_)))
        have skip : Ev (fun k => spec_OneByOne.j2 k m l t fl (i : Int) true) r := Ev.step (fun k => by rw [spec_OneByOne.j2]) (evPos rfl (by rw [his]; exact e2))
        by_cases h1' : rd t (i : Int) = 1
        · exact evPos h1' skip
        · refine evNeg h1' (Ev.bind ha (evPos (by omega) (evPos (by omega) ?_)))
          by_cases hlt : rd (aft m l t) (rd_T47 l (i : Int)).f0 < (rd_T47 l (i : Int)).f2
          · rw [decide_eq_true hlt]; exact skip
          · rw [decide_eq_false hlt]
            refine Ev.step (fun k => by rw [spec_OneByOne.j2]) (evNeg (by decide) ?_)
            exact sp2_no m l t fl i (by omega) hlen hilt r e2 i 0 (by omega) (by omega) (fun hFi => hF ⟨h1', by unfold am fr; omega, hFi⟩)
theorem run {m : List Int} {l : List W} (hw : wOk m l = true) : ∀ (C : Nat) (t : List Int), t.count 0 = C → J m l t → ∃ r, Post m l r ∧ Ev (fun k => impl_oneByOne.l0 k l (aft m l t) t true) r ∧ Ev (fun k => spec_OneByOne.l0 k m l t true) r := by
  intro C
  induction C using Nat.strongRecOn with
  | _ C ih =>
    intro t hc hJ
    obtain ⟨r, a, b, c⟩ := pass hw C (fun u hu hcu => ih _ hcu u rfl hu) l.length 0 t false (by omega) (by omega) hJ (by omega) (fun h => by cases h) (fun _ i' h => by omega)
    refine ⟨r, a, ?_, ?_⟩
    · refine Ev.step (fun k => by rw [impl_oneByOne.l0]) (evPos rfl ?_)
      exact b
    · refine Ev.step (fun k => by rw [spec_OneByOne.l0]) (evPos rfl ?_)
      exact c
theorem aft_zero (m : List Int) (l : List W) (hv : ∀ w ∈ l, Vw m.length w) : aft m l (List.replicate l.length 0) = m := by
  refine ext_rd _ _ (aft_len _ _ _) (fun j _ => ?_)
  rw [aft_rd m.length l _ m hv rfl _ (by omega)]
  have : ∀ (l : List W) (n : Nat), effs l (List.replicate n 0) (j : Int) = 0 := by
    intro l
    induction l with
    | nil => intro n; cases n <;> simp [effs]
    | cons w l ih =>
      intro n
      cases n with
      | zero => simp [effs]
      | succ n =>
        show eff w 0 (j : Int) + effs l (List.replicate n 0) (j : Int) = 0
        rw [ih n]; simp [eff]
  rw [this]; omega
theorem rep0 (n k : Nat) : rd (List.replicate n 0) (k : Int) = 0 := by
  unfold rd
  rw [List.getD_eq_getElem?_getD, List.getElem?_replicate]
  split <;> rfl
theorem start {m : List Int} {l : List W} (hw : wOk m l = true) : J m l (List.replicate l.length 0) := by
  obtain ⟨h1, h4, h7, hv, hbd, hpos⟩ := of_wOk hw
  exact ⟨by simp, fun x hx => .inl (List.eq_of_mem_replicate hx), fun i j hj hi h _ => by rw [rep0] at h; omega, fun j hj => by rw [aft_zero m l hv]; exact hpos _ (by omega)⟩
theorem inner {m : List Int} {l : List W} (hw : wOk m l = true) : ∃ r, Post m l r ∧ Ev (fun k => impl_oneByOne.f k m l) r ∧ Ev (fun k => spec_OneByOne.l0 k m l (List.replicate l.length 0) true) r := by
  obtain ⟨h1, h4, h7, hv, hbd, hpos⟩ := of_wOk hw
  obtain ⟨r, a, b, c⟩ := run hw _ _ rfl (start hw)
  rw [aft_zero m l hv] at b
  refine ⟨r, a, ?_, c⟩
  unfold impl_oneByOne.f
  refine evBind0 rfl (evPos (by simp; omega) (evPos (by omega) (evPos (by omega) ?_)))
  simpa using b
theorem both (m : List Int) (l : List W) (hm : m.length ≤ big) (hl : l.length ≤ big) : ∃ r, (wOk m l = true → Post m l r) ∧ (wOk m l = false → r = []) ∧ Ev (fun k => impl_OneByOne.f k m l) r ∧ Ev (fun k => spec_OneByOne.f k m l) r := by
  cases hw : wOk m l with
  | true =>
    obtain ⟨h1, h4, h7, hv, hbd, hpos⟩ := of_wOk hw
    obtain ⟨r, a, b, c⟩ := inner hw
    refine ⟨r, fun _ => a, (fun h => by cases h), ?_, ?_⟩
    · unfold impl_OneByOne.f
      exact Ev.bind (Wo.areWaits m l hm hl) (evT hw (Ev.bind b (Ev.now _)))
    · unfold spec_OneByOne.f
      refine Ev.bind (Wo.spec m l hm hl) (evT hw (evPos (by omega) (evPos (by omega) ?_)))
      simpa using c
  | false =>
    refine ⟨[], (fun h => by cases h), fun _ => rfl, ?_, ?_⟩
    · unfold impl_OneByOne.f
      exact Ev.bind (Wo.areWaits m l hm hl) (evF hw (Ev.now _))
    · unfold spec_OneByOne.f
      exact Ev.bind (Wo.spec m l hm hl) (evF hw (Ev.now _))
end Go.Proofs.Ytbnkiikpolcpkaa.Ob
namespace Go.Proofs.Ytbnkiikpolcpkaa.Al
open Go.RowKit Go.Proofs.Ytbnkiikpolcpkaa.PU Go.Proofs.Ytbnkiikpolcpkaa.Qh Go.Proofs.YtbnkiikpolcpkaaW.PrintWords Go.Proofs.YtbnkiikpolcpkaaW.PrintMore
set_option linter.unusedVariables false
set_option linter.unusedSimpArgs false
theorem alive : Ev (fun k => laws_alive.f k) true := Ev.of (fun k => laws_alive.mono k) (k := 12) (by decide +kernel)
end Go.Proofs.Ytbnkiikpolcpkaa.Al
namespace Go.Proofs.Ytbnkiikpolcpkaa.Dr
open Go.RowKit Go.Proofs.Ytbnkiikpolcpkaa.PU Go.Proofs.Ytbnkiikpolcpkaa.Qh Go.Proofs.YtbnkiikpolcpkaaW.PrintWords Go.Proofs.YtbnkiikpolcpkaaW.PrintMore
set_option linter.unusedVariables false
set_option linter.unusedSimpArgs false
theorem xor_nonneg (a b : Int) (ha : 0 ≤ a) (ha2 : a < 4611686018427387904) (hb : 0 ≤ b) (hb2 : b < 4611686018427387904) : 0 ≤ Go.bits .xor .i64 a b := by
  obtain ⟨m, rfl⟩ := Int.eq_ofNat_of_zero_le ha
  obtain ⟨n, rfl⟩ := Int.eq_ofNat_of_zero_le hb
  have hm : m < 2 ^ 62 := by omega
  have hn : n < 2 ^ 62 := by omega
  have hx : m ^^^ n < 2 ^ 62 := Nat.xor_lt_two_pow hm hn
  have e1 : m % 2 ^ 64 = m := Nat.mod_eq_of_lt (by omega)
  have e2 : n % 2 ^ 64 = n := Nat.mod_eq_of_lt (by omega)
  have : Go.bits .xor .i64 (m : Int) (n : Int) = ((m ^^^ n : Nat) : Int) := by
    simp only [Go.bits, BitVec.ofInt_natCast, BitVec.toNat_xor, BitVec.toNat_ofNat]
    show IntKind.i64.wrap (((m % 2 ^ 64) ^^^ (n % 2 ^ 64) : Nat) : Int) = _
    rw [e1, e2, IntKind.wrap_i64]
    omega
  rw [this]
  omega
def Bytes (b : List Int) : Prop := b.length ≤ 2000 ∧ ∀ x ∈ b, 0 ≤ x ∧ x ≤ 255
theorem rd_byte {b : List Int} (h : Bytes b) (i : Int) : 0 ≤ rd b i ∧ rd b i ≤ 255 := by
  unfold rd
  by_cases hi : i.toNat < b.length
  · exact h.2 _ (getD_mem 0 b _ hi)
  · simp [List.getD_eq_getElem?_getD, List.getElem?_eq_none (by omega : b.length ≤ i.toNat)]
theorem pick {b : List Int} (hb : Bytes b) (p n : Int) (h0 : 0 ≤ p) (h1 : p ≤ 1000000000) :
    ∃ v, 0 ≤ v ∧ (1 ≤ n → v < n) ∧ (n < 1 → v = 0) ∧ Ev (fun k => spec_l20Rd_pick.f k b p n) (v, p + 1) := by
  have hp : wrap64 (p + 1) = p + 1 := w64 (by omega) (by omega)
  have hp1 : wrap64 (p + 1 - 1) = p := by rw [w64 (by omega) (by omega)]; omega
  unfold spec_l20Rd_pick.f
  rw [hp]
  by_cases hn : n < 1
  · refine ⟨0, by omega, by omega, fun _ => rfl, evPos hn ?_⟩
    refine Ev.step (fun k => by rw [spec_l20Rd_pick.j0]) ?_
    exact evPos rfl (Ev.now _)
  by_cases hz : b.length = 0
  · refine ⟨0, by omega, by omega, fun h => absurd h hn, evNeg hn ?_⟩
    refine Ev.step (fun k => by rw [spec_l20Rd_pick.j0]) ?_
    exact evPos (by simp [hz]) (Ev.now _)
  have hlen : 0 < (b.length : Int) := by omega
  by_cases hlt : p < (b.length : Int)
  · have hr := rd_byte hb p
    refine ⟨Int.tmod (rd b p) n, Int.tmod_nonneg _ hr.1, fun _ => Int.tmod_lt_of_pos _ (by omega), fun h => absurd h hn, evNeg hn ?_⟩
    refine Ev.step (fun k => by rw [spec_l20Rd_pick.j0]) ?_
    rw [hp1]
    refine evNeg (fun h => by have := beq_iff_eq.mp h; omega) (evPos hlt (evPos h0 (evNeg (by omega) ?_)))
    rw [w64 (by omega) (by omega)]
    exact Ev.now _
  · have hp7 : wrap64 (p * 7) = p * 7 := w64 (by omega) (by omega)
    have hp73 : wrap64 (p * 7 + 3) = p * 7 + 3 := w64 (by omega) (by omega)
    have hp29 : wrap64 (p * 29) = p * 29 := w64 (by omega) (by omega)
    have i1 := Int.tmod_nonneg (b.length : Int) h0
    have i2 := Int.tmod_lt_of_pos p hlen
    have j1 := Int.tmod_nonneg (b.length : Int) (show 0 ≤ p * 7 + 3 by omega)
    have j2 := Int.tmod_lt_of_pos (p * 7 + 3) hlen
    have d1 : 0 ≤ Int.tdiv p (b.length : Int) := Int.tdiv_nonneg h0 (by omega)
    have d2 : Int.tdiv p (b.length : Int) ≤ p := Int.tdiv_le_self _ h0
    have r1 := rd_byte hb (Int.tmod p (b.length : Int))
    have r2 := rd_byte hb (Int.tmod (p * 7 + 3) (b.length : Int))
    have key : ∃ x, 0 ≤ x ∧ x < 4611686018427387904 ∧ wrap64 ((wrap64 ((wrap64 ((wrap64 ((wrap64 (rd b (Int.tmod p (b.length : Int)))) * 131)) + (wrap64 ((wrap64 (rd b (Int.tmod (p * 7 + 3) (b.length : Int)))) * 1117)))) + (p * 29))) + (wrap64 ((wrap64 (Int.tdiv p (b.length : Int))) * 53))) = x := by
      generalize rd b (Int.tmod p (b.length : Int)) = u at *
      generalize rd b (Int.tmod (p * 7 + 3) (b.length : Int)) = v at *
      generalize Int.tdiv p (b.length : Int) = d at *
      have e1 : wrap64 u = u := w64 (by omega) (by omega)
      have e2 : wrap64 v = v := w64 (by omega) (by omega)
      have e3 : wrap64 d = d := w64 (by omega) (by omega)
      have e4 : wrap64 (u * 131) = u * 131 := w64 (by omega) (by omega)
      have e5 : wrap64 (v * 1117) = v * 1117 := w64 (by omega) (by omega)
      have e6 : wrap64 (d * 53) = d * 53 := w64 (by omega) (by omega)
      have e7 : wrap64 (u * 131 + v * 1117) = u * 131 + v * 1117 := w64 (by omega) (by omega)
      have e8 : wrap64 (u * 131 + v * 1117 + p * 29) = u * 131 + v * 1117 + p * 29 := w64 (by omega) (by omega)
      refine ⟨u * 131 + v * 1117 + p * 29 + d * 53, by omega, by omega, ?_⟩
      rw [e1, e2, e3, e4, e5, e6, e7, e8]
      exact w64 (by omega) (by omega)
    obtain ⟨x, hx0, hx1, hx⟩ := key
    have t0 : 0 ≤ Int.tdiv x 64 := Int.tdiv_nonneg hx0 (by omega)
    have t1 : Int.tdiv x 64 ≤ x := Int.tdiv_le_self _ hx0
    have ht : wrap64 (Int.tdiv x 64) = Int.tdiv x 64 := w64 (by omega) (by omega)
    have hq := xor_nonneg x (Int.tdiv x 64) hx0 hx1 t0 (by omega)
    refine ⟨Int.tmod (Go.bits .xor .i64 x (Int.tdiv x 64)) n, Int.tmod_nonneg _ hq, fun _ => Int.tmod_lt_of_pos _ (by omega), fun h => absurd h hn, evNeg hn ?_⟩
    refine Ev.step (fun k => by rw [spec_l20Rd_pick.j0]) ?_
    rw [hp1, hp7, hp73, hp29, hx, ht]
    refine evNeg (fun h => by have := beq_iff_eq.mp h; omega) (evNeg hlt (evNeg (by omega) (evPos i1 (evPos i2 (evPos j1 (evPos j2 (evNeg (by omega) (Ev.now _))))))))
theorem open_ (l : List Int) (hu : ∀ x ∈ l, (Lit.int .u8 x).wf = true) : ∃ b, Bytes b ∧ spec_l20Open.f l = some (b, 0) := by
  have hb : ∀ x ∈ l, 0 ≤ x ∧ x ≤ 255 := fun x hx => by
    have := hu x hx
    simp [Lit.wf, IntKind.min, IntKind.max, IntKind.bits, IntKind.signed] at this
    omega
  unfold spec_l20Open.f
  by_cases h : (l.length : Int) > 2000
  · exact ⟨l.take 2000, ⟨by rw [List.length_take]; omega, fun x hx => hb x (List.mem_of_mem_take hx)⟩, by rw [if_pos h, if_pos (by omega)]⟩
  · exact ⟨l, ⟨by omega, hb⟩, by rw [if_neg h]⟩
end Go.Proofs.Ytbnkiikpolcpkaa.Dr
namespace Go.Proofs.Ytbnkiikpolcpkaa.Dw
open Go.RowKit Go.Proofs.Ytbnkiikpolcpkaa.PU Go.Proofs.Ytbnkiikpolcpkaa.Qh Go.Proofs.Ytbnkiikpolcpkaa.Dr Go.Proofs.YtbnkiikpolcpkaaW.PrintWords Go.Proofs.YtbnkiikpolcpkaaW.PrintMore
set_option linter.unusedVariables false
set_option linter.unusedSimpArgs false
abbrev W := S47
theorem odd {b : List Int} (hb : Bytes b) (p n : Int) (h0 : 0 ≤ p) (h1 : p ≤ 1000000000) :
    ∃ v q, p ≤ q ∧ q ≤ p + 1 ∧ Ev (fun k => spec_l20Rd_odd.f k b p n) (v, q) := by
  unfold spec_l20Rd_odd.f
  by_cases h : n > 0
  · obtain ⟨v, _, _, _, he⟩ := pick hb p n h0 h1
    exact ⟨_, p + 1, by omega, by omega, evPos h (Ev.bind he (Ev.now _))⟩
  · exact ⟨false, p, by omega, by omega, evNeg h (Ev.now _)⟩
theorem l1 {b : List Int} (hb : Bytes b) (x1 : Int) (m : List Int) (n : Int) (hn : 2 ≤ n ∧ n ≤ 4) (hm : (m.length : Int) = n) : ∀ (c : Nat) (l : List W) (p : Int), l.length + c ≤ 7 → 0 ≤ p → p + 10 * c + 10 ≤ 1000000000 →
    ∃ m' l' q, m'.length ≤ 4 ∧ l'.length ≤ 8 ∧ p ≤ q ∧ q ≤ p + 10 * c + 10 ∧ Ev (fun k => spec_l20Waits.l1 k x1 m n l (c : Int) b p) (m', l', q) := by
  intro c
  induction c with
  | zero =>
    intro l p hl h0 h1
    obtain ⟨v, q, hq0, hq1, ho⟩ := odd hb p x1 h0 (by omega)
    cases v with
    | false =>
      refine ⟨m, l, q, by omega, by omega, hq0, by omega, ?_⟩
      refine Ev.step (fun k => by rw [spec_l20Waits.l1]) ?_
      exact evNeg (by omega) (Ev.bind ho (evF rfl (Ev.now _)))
    | true =>
      obtain ⟨u, _, _, _, hu⟩ := pick hb q 3 (by omega) (by omega)
      by_cases u0 : u = 0
      · refine ⟨[], l, q + 1, by simp, by omega, by omega, by omega, ?_⟩
        refine Ev.step (fun k => by rw [spec_l20Waits.l1]) ?_
        exact evNeg (by omega) (Ev.bind ho (evT rfl (Ev.bind hu (evPos u0 (Ev.now _)))))
      · by_cases u1 : u = 1
        · refine ⟨m, l ++ [(⟨0, 0, 0⟩ : W)], q + 1, by omega, by simp; omega, by omega, by omega, ?_⟩
          refine Ev.step (fun k => by rw [spec_l20Waits.l1]) ?_
          exact evNeg (by omega) (Ev.bind ho (evT rfl (Ev.bind hu (evNeg u0 (evPos u1 (evPos (by omega) (Ev.now _)))))))
        · refine ⟨m.set 0 (-1), l, q + 1, by simp; omega, by omega, by omega, by omega, ?_⟩
          refine Ev.step (fun k => by rw [spec_l20Waits.l1]) ?_
          exact evNeg (by omega) (Ev.bind ho (evT rfl (Ev.bind hu (evNeg u0 (evNeg u1 (evPos (by omega) (Ev.now _)))))))
  | succ c ih =>
    intro l p hl h0 h1
    obtain ⟨v1, _, _, _, h1'⟩ := pick hb p n h0 (by omega)
    obtain ⟨v2, _, _, _, h2'⟩ := pick hb (p + 1) (wrap64 (n - 1)) (by omega) (by omega)
    obtain ⟨v3, a3, b3, _, h3'⟩ := pick hb (p + 1 + 1) 3 (by omega) (by omega)
    have b3' := b3 (by omega)
    obtain ⟨v4, _, _, _, h4'⟩ := pick hb (p + 1 + 1 + 1) (rd [3, 10, 20] v3) (by omega) (by omega)
    obtain ⟨m', l', q, e1, e2, e3, e4, e5⟩ := ih (l ++ [(⟨v1, Int.tmod (wrap64 ((wrap64 (v1 + 1)) + v2)) n, wrap64 (1 + v4)⟩ : W)]) (p + 1 + 1 + 1 + 1) (by simp; omega) (by omega) (by omega)
    refine ⟨m', l', q, e1, e2, by omega, by omega, ?_⟩
    refine Ev.step (fun k => by rw [spec_l20Waits.l1]) ?_
    have hs : wrap64 (((c + 1 : Nat) : Int) - 1) = (c : Int) := by rw [w64 (by omega) (by omega)]; omega
    rw [hs]
    exact evPos (by omega) (Ev.bind h1' (Ev.bind h2' (evNeg (by omega) (evBind0 rfl (Ev.bind h3' (evPos a3 (evPos (by simpa using b3') (Ev.bind h4' (evPos (by omega) e5)))))))))
theorem l0 {b : List Int} (hb : Bytes b) (x1 n x8 : Int) (hn : 2 ≤ n ∧ n ≤ 4) : ∀ (d : Nat) (m : List Int) (p : Int), (m.length : Int) + d = n → 0 ≤ p → p + 10 * d + 100 ≤ 1000000000 →
    ∃ m' l' q, m'.length ≤ 4 ∧ l'.length ≤ 8 ∧ p ≤ q ∧ q ≤ p + 10 * d + 100 ∧ Ev (fun k => spec_l20Waits.l0 k x1 m n x8 (m.length : Int) b p) (m', l', q) := by
  intro d
  induction d with
  | zero =>
    intro m p hm h0 h1
    obtain ⟨v, a1, a2, _, hv⟩ := pick hb p 8 h0 (by omega)
    have a2' := a2 (by omega)
    obtain ⟨c, rfl⟩ := Int.eq_ofNat_of_zero_le a1
    obtain ⟨m', l', q, e1, e2, e3, e4, e5⟩ := l1 hb x1 m n hn (by omega) c [] (p + 1) (by simp; omega) (by omega) (by omega)
    refine ⟨m', l', q, e1, e2, by omega, by omega, ?_⟩
    refine Ev.step (fun k => by rw [spec_l20Waits.l0]) ?_
    exact evNeg (by omega) (Ev.bind hv e5)
  | succ d ih =>
    intro m p hm h0 h1
    obtain ⟨v, _, _, _, hv⟩ := pick hb p (wrap64 (5 + (wrap64 (x8 * 12)))) h0 (by omega)
    obtain ⟨m', l', q, e1, e2, e3, e4, e5⟩ := ih (m ++ [v]) (p + 1) (by simp; omega) (by omega) (by omega)
    refine ⟨m', l', q, e1, e2, by omega, by omega, ?_⟩
    refine Ev.step (fun k => by rw [spec_l20Waits.l0]) ?_
    have hs : wrap64 ((m.length : Int) + 1) = (((m ++ [v]).length : Nat) : Int) := by rw [w64 (by omega) (by omega)]; simp
    rw [hs]
    exact evPos (by omega) (Ev.bind hv (evPos (by omega) e5))
theorem waits {b : List Int} (hb : Bytes b) (p x1 : Int) (h0 : 0 ≤ p) (h1 : p ≤ 1000000) :
    ∃ m l q, m.length ≤ 4 ∧ l.length ≤ 8 ∧ p ≤ q ∧ q ≤ p + 1000 ∧ Ev (fun k => spec_l20Waits.f k b p x1) (m, l, q) := by
  obtain ⟨v, a1, a2, _, hv⟩ := pick hb p 3 h0 (by omega)
  have a2' := a2 (by omega)
  obtain ⟨u, _, _, _, hu⟩ := pick hb (p + 1) 2 (by omega) (by omega)
  have hw : wrap64 (2 + v) = 2 + v := w64 (by omega) (by omega)
  obtain ⟨d, hd⟩ := Int.eq_ofNat_of_zero_le (show 0 ≤ 2 + v by omega)
  obtain ⟨m, l, q, e1, e2, e3, e4, e5⟩ := l0 hb x1 (2 + v) u (by omega) d [] (p + 1 + 1) (by simp; omega) (by omega) (by omega)
  refine ⟨m, l, q, e1, e2, by omega, by omega, ?_⟩
  unfold spec_l20Waits.f
  rw [← hw] at e5
  exact Ev.bind hv (Ev.bind hu e5)
end Go.Proofs.Ytbnkiikpolcpkaa.Dw
namespace Go.Proofs.Ytbnkiikpolcpkaa.Su
open Go.RowKit Go.Proofs.Ytbnkiikpolcpkaa.PU Go.Proofs.Ytbnkiikpolcpkaa.Qh Go.Proofs.YtbnkiikpolcpkaaW.PrintWords Go.Proofs.YtbnkiikpolcpkaaW.PrintMore
set_option linter.unusedVariables false
set_option linter.unusedSimpArgs false
theorem same_l (l : List Int) (hl : l.length ≤ 4611686018427387904) : ∀ (d i : Nat), l.length - i = d → i ≤ l.length → Ev (fun k => laws_sameInts.l0 k l l (i : Int)) true := by
  intro d
  induction d with
  | zero =>
    intro i hd hi
    exact Ev.step (fun k => by rw [laws_sameInts.l0]) (evNeg (by omega) (Ev.now _))
  | succ d ih =>
    intro i hd hi
    have hlt : i < l.length := by omega
    have hs : wrap64 ((i : Int) + 1) = ((i + 1 : Nat) : Int) := wsucc hlt (by omega)
    refine Ev.step (fun k => by rw [laws_sameInts.l0]) (evPos (by omega) (evPos (by omega) (evPos (by omega) (evPos rfl ?_))))
    rw [hs]
    exact ih (i + 1) (by omega) (by omega)
theorem same (l : List Int) (hl : l.length ≤ 4611686018427387904) : Ev (fun k => laws_sameInts.f k l l) true := by
  unfold laws_sameInts.f
  exact evPos rfl (same_l l hl l.length 0 (by omega) (by omega))
def sm (xs : List Int) : Nat → Int
  | 0 => 0
  | i + 1 => sm xs i + rd xs (i : Int)
theorem sum_l (l : List Int) (h8 : l.length ≤ 100) (hb : ∀ j : Nat, -100000 ≤ rd l (j : Int) ∧ rd l (j : Int) ≤ 100000) : ∀ (d i : Nat), l.length - i = d → i ≤ l.length → (-100000 * (i : Int) ≤ sm l i ∧ sm l i ≤ 100000 * i) →
    Ev (fun k => laws_sumOf.l0 k l (sm l i) (i : Int)) (sm l l.length) := by
  intro d
  induction d with
  | zero =>
    intro i hd hi _
    obtain rfl : i = l.length := by omega
    exact Ev.step (fun k => by rw [laws_sumOf.l0]) (evNeg (by omega) (Ev.now _))
  | succ d ih =>
    intro i hd hi hsm
    have hlt : i < l.length := by omega
    have hs : wrap64 ((i : Int) + 1) = ((i + 1 : Nat) : Int) := wsucc hlt (by omega)
    have hx := hb i
    have hw : wrap64 (sm l i + rd l (i : Int)) = sm l (i + 1) := by rw [w64 (by omega) (by omega)]; rfl
    refine Ev.step (fun k => by rw [laws_sumOf.l0]) (evPos (by omega) (evPos (by omega) ?_))
    rw [hs, hw]
    exact ih (i + 1) (by omega) (by omega) (by simp only [sm]; omega)
theorem sum (l : List Int) (h8 : l.length ≤ 100) (hb : ∀ j : Nat, -100000 ≤ rd l (j : Int) ∧ rd l (j : Int) ≤ 100000) : Ev (fun k => laws_sumOf.f k l) (sm l l.length) := by
  unfold laws_sumOf.f
  exact sum_l l h8 hb l.length 0 (by omega) (by omega) (by simp [sm])
theorem sm_set (xs : List Int) (v : Int) (i : Nat) (hi : i < xs.length) : ∀ n, n ≤ xs.length → sm (xs.set i v) n = sm xs n + (if i < n then v - rd xs (i : Int) else 0)
  | 0, _ => by simp [sm]
  | n + 1, hn => by
    have := sm_set xs v i hi n (by omega)
    simp only [sm]
    rw [this]
    have hr := rd_set xs v (i : Int) (n : Int) (by omega) (by omega) (by omega)
    rw [Int.toNat_natCast] at hr
    rw [hr]
    by_cases e : i = n
    · subst e
      simp only [if_pos, Nat.lt_irrefl, if_false, Nat.lt_succ_self]; omega
    · have e' : ¬ (i : Int) = (n : Int) := by omega
      by_cases h : i < n
      · have h' : i < n + 1 := by omega
        simp only [if_neg e', if_pos h, if_pos h']; omega
      · have h' : ¬ i < n + 1 := by omega
        simp only [if_neg e', if_neg h, if_neg h']; omega
end Go.Proofs.Ytbnkiikpolcpkaa.Su
namespace Go.Proofs.Ytbnkiikpolcpkaa.Fal
open Go.RowKit Go.Proofs.Ytbnkiikpolcpkaa.PU Go.Proofs.Ytbnkiikpolcpkaa.Qh Go.Proofs.Ytbnkiikpolcpkaa.Wo Go.Proofs.Ytbnkiikpolcpkaa.Af Go.Proofs.YtbnkiikpolcpkaaW.PrintWords Go.Proofs.YtbnkiikpolcpkaaW.PrintMore
set_option linter.unusedVariables false
set_option linter.unusedSimpArgs false
theorem lot_l {b : List Int} (hb : Dr.Bytes b) (n : Nat) (hn : n ≤ 20) : ∀ (d : Nat) (x : List Int) (p : Int), x.length + d = n → 0 ≤ p → p + d ≤ 1000000 →
    ∃ y q, y.length = n ∧ Ev (fun k => spec_l20Lot.l0 k (n : Int) x (x.length : Int) b p) (y, q) := by
  intro d
  induction d with
  | zero =>
    intro x p hx h0 h1
    exact ⟨x, p, by omega, Ev.step (fun k => by rw [spec_l20Lot.l0]) (evNeg (by omega) (Ev.now _))⟩
  | succ d ih =>
    intro x p hx h0 h1
    obtain ⟨v, a1, a2, _, hv⟩ := Dr.pick hb p 3 h0 (by omega)
    have a2' := a2 (by omega)
    obtain ⟨y, q, hy, he⟩ := ih (x ++ [rd [1, 1, 0] v]) (p + 1) (by simp; omega) (by omega) (by omega)
    refine ⟨y, q, hy, ?_⟩
    refine Ev.step (fun k => by rw [spec_l20Lot.l0]) ?_
    refine evPos (by omega) (evBind0 rfl (Ev.bind hv ?_))
    refine evPos a1 (evPos (by simpa using a2') (evPos (by omega) ?_))
    have hs : wrap64 ((x.length : Int) + 1) = (((x ++ [rd [1, 1, 0] v]).length : Nat) : Int) := by rw [w64 (by omega) (by omega)]; simp
    rw [hs]
    exact he
theorem lot {b : List Int} (hb : Dr.Bytes b) (n : Nat) (hn : n ≤ 20) (p : Int) (h0 : 0 ≤ p) (h1 : p + 20 ≤ 1000000) : ∃ y q, y.length = n ∧ Ev (fun k => spec_l20Lot.f k b p (n : Int)) (y, q) := by
  unfold spec_l20Lot.f
  exact lot_l hb n hn n [] p (by simp) h0 (by omega)
theorem more (n : Nat) (hn : n ≤ 8) (v : Int) (h0 : 0 ≤ v) (h1 : v < 20) : ∃ c : Nat, c ≤ 9 ∧ wrap64 ((n : Int) + wrap64 (Int.tdiv v 19)) = (c : Int) := by
  have e : Int.tdiv v 19 = v / 19 := Int.tdiv_eq_ediv_of_nonneg h0
  have : v / 19 = 0 ∨ v / 19 = 1 := by omega
  rw [e]
  rcases this with h | h
  · exact ⟨n, by omega, by rw [h, show wrap64 (0 : Int) = 0 from w64 (by omega) (by omega), w64 (by omega) (by omega)]; omega⟩
  · exact ⟨n + 1, by omega, by rw [h, show wrap64 (1 : Int) = 1 from w64 (by omega) (by omega), w64 (by omega) (by omega)]; omega⟩
theorem draw (l0 : List Int) (hu : ∀ x ∈ l0, (Lit.int .u8 x).wf = true) : ∃ (m : List Int) (l : List W) (t : List Int), m.length ≤ 8 ∧ l.length ≤ 8 ∧ t.length ≤ 9 ∧ Ev (fun k => spec_DrawAfterLot.f k l0) (m, l, t) := by
  obtain ⟨b, hb, ho⟩ := Dr.open_ l0 hu
  obtain ⟨m, l, q, hm, hl, hq0, hq1, hw⟩ := Dw.waits hb 0 14 (by omega) (by omega)
  obtain ⟨v, a1, a2, _, h1⟩ := Dr.pick hb q 20 (by omega) (by omega)
  obtain ⟨c, hc, hce⟩ := more l.length hl v a1 (a2 (by omega))
  obtain ⟨t, z, ht, he⟩ := lot hb c (by omega) (q + 1) (by omega) (by omega)
  refine ⟨m, l, t, by omega, hl, by omega, ?_⟩
  unfold spec_DrawAfterLot.f
  refine evBind0 ho (Ev.bind hw (Ev.bind h1 ?_))
  dsimp only
  rw [hce]
  exact Ev.bind he (Ev.now _)
theorem sm_step (o : List Int) (w : W) (x : Int) (n : Nat) (hw : Vw n w) (ho : o.length = n) : Su.sm (stepA o w x) n = Su.sm o n := by
  have hw' := hw
  unfold Vw at hw'
  have hp := pay_len o w x
  unfold stepA
  rw [Su.sm_set _ _ _ (by omega) n (by omega), if_pos (by omega)]
  have : (w.f1.toNat : Int) = w.f1 := by omega
  rw [this]
  unfold pay at *
  rw [Su.sm_set _ _ _ (by omega) n (by omega), if_pos (by omega)]
  have : (w.f0.toNat : Int) = w.f0 := by omega
  rw [this]
  omega
theorem sm_aft (n : Nat) : ∀ (l : List W) (t o : List Int), (∀ w ∈ l, Vw n w) → o.length = n → Su.sm (aft o l t) n = Su.sm o n
  | [], t, o, _, _ => by unfold aft; rfl
  | _ :: _, [], o, _, _ => rfl
  | w :: l, x :: t, o, hv, ho => by
    show Su.sm (aft (stepA o w x) l t) n = _
    rw [sm_aft n l t _ (fun v h => hv v (List.mem_cons_of_mem _ h)) (by rw [step_len, ho]), sm_step o w x n (hv w List.mem_cons_self) ho]
theorem holds : laws_FnAfterLot.Pure := by
  intro l0 _ _ hu
  refine Ev.rounds (g := fun k => laws_FnAfterLot.f k l0) ?_
  unfold laws_FnAfterLot.f
  by_cases a : (l0.length : Int) > 1048576
  · exact evPos a (Ev.now _)
  refine evNeg a ?_
  obtain ⟨m, l, t, hm, hl, ht, hd⟩ := draw l0 hu
  obtain ⟨r, hr1, hr2, hi, hs⟩ := Al2.both m l t (by unfold big; omega) (by unfold big; omega) (by unfold big; omega)
  by_cases hok : wOk m l = true ∧ t.length = l.length ∧ Lot t
  · have hr := hr1 hok
    obtain ⟨h1, h4, h7, hv, hbd, hpos⟩ := of_wOk hok.1
    have hal := aft_len l t m
    have hab := Ob.aft_bd m.length l t m 20 hv hok.2.2 rfl hbd
    subst hr
    have s1 := Su.sum (aft m l t) (by omega) (fun j => by have := hab (j : Int) (by omega); omega)
    have s2 := Su.sum m (by omega) (fun j => by have := hbd (j : Int) (by omega); omega)
    rw [hal, sm_aft m.length l t m hv rfl] at s1
    refine Ev.bind hd (Ev.bind hi (Ev.bind hs (Ev.bind (Su.same _ (by omega)) (evT rfl (evNeg (by omega) (Ev.bind s1 (Ev.bind s2 (evPos rfl (evNow ?_)))))))))
    rw [hal]; simp
  · have hr := hr2 hok
    subst hr
    exact Ev.bind hd (Ev.bind hi (Ev.bind hs (Ev.bind (Su.same _ (by simp)) (evT rfl (evPos (by simp) (Ev.bind Al.alive (Ev.now _)))))))
end Go.Proofs.Ytbnkiikpolcpkaa.Fal
namespace Go.Proofs.Ytbnkiikpolcpkaa.Pure
open Go.RowKit Go.Proofs.Ytbnkiikpolcpkaa.PU
theorem FnAfterLot : laws_FnAfterLot.Pure := Fal.holds
end Go.Proofs.Ytbnkiikpolcpkaa.Pure
namespace Go.Proofs.Ytbnkiikpolcpkaa.fnAfterLot
open Go.ChangeShapes Go.WideShapes Go.ChangeAt Go.RowKit
open Go.ChangeMaps (open_string shut_string)
set_option linter.unusedVariables false
theorem own : ownKnob Try.prog.godebug = none := by kernel_rfl
theorem laidOut : laidOutB Try.prog = true := by kernel_rfl
def IsRow (k : IntKind) (w : World) (a : Option Addr) (len cap : Nat) (zs : List Int) : Prop :=
  (a = none ∧ len = 0 ∧ cap = 0 ∧ zs = []) ∨
  ∃ x, a = some x ∧ len ≤ cap ∧ cap ≤ maxLen ∧ zs.length = cap ∧ (∀ i, i < zs.length → w.cell? (x.add i) = some (.int k (zs.getD i 0))) ∧ ∀ n ∈ zs, (Lit.int k n).wf = true
set_option maxRecDepth 100000 in
theorem lifted (os : Os) (started : os.Started) (H : Type) (enc : TypeId × Value → H) :
    ReturnsInHanded {} Try.checked os 6 .any (Rows.fnAfterLotSpec.pre6 enc Try.prog Try.f6 Rows.fnAfterLotRow.domain false) (Rows.fnAfterLotSpec.post enc Try.prog Try.f6 false true false false) := by
  refine returnsInHanded_of_change_sized (C := Try.checked) own started (by kernel_rfl) Try.func6
    (ChangeSpec.witness6 (enc := enc) (C := Try.checked) false ⟨#[], #[.slice none 0 0], []⟩ 8 (by kernel_rfl) (by kernel_rfl) (by kernel_rfl) (by kernel_rfl)) ?_
  intro W base args ds gs before hval0 hW hcnd hsz0 _
  have hsz : (DataW.weightsEach Try.prog (Try.f6.params.toList ++ Rows.fnAfterLotSpec.plain.varTypes Try.prog) (ds ++ gs)).all (· ≤ reachBytes) = true := hsz0
  have hval : ∀ (j : Nat) t v, Try.f6.params[j]? = some t → args[j]? = some v → Value.okWide Try.prog W .any base t v := hval0
  have hW' := hW
  obtain ⟨p, q, hA0, hV, rfl, hfz, hnd⟩ := hW
  have hA : DataW.TrodAll enc Try.prog W 0 (fun _ => true) true Try.f6.params.toList args.toList ds p := hA0
  rw [Try.params6] at hA hval hsz
  obtain ⟨v0, vs0, d0, ds0, p0, q0, hargs, rfl, rfl, h0, r0⟩ := trodAll_cons hA
  obtain ⟨rfl, rfl, rfl⟩ := trodAll_nil r0
  obtain rfl : args = #[v0] := by cases args; simp_all
  obtain ⟨rfl, rfl⟩ := trodVars_none hV
  obtain ⟨a0, len0, cap0, rfl⟩ := okWide_slice Try.underlying32 (hval 0 32 v0 rfl rfl)
  have k0 := h0
  have lt0 : ∀ x ∈ p0, x.block < W.heap.size := by obtain ⟨m, hm⟩ := k0; exact DataW.trod_lt m _ _ _ hm
  obtain ⟨z0, w0⟩ : ∃ zs, IsRow .u8 W a0 len0 cap0 zs := by
    obtain ⟨fuel, hf⟩ := h0
    rcases open_ints Try.underlying32 Try.underlying5 (by kernel_rfl) hf with ⟨hcs, _⟩ | ⟨x, l, c, zs, hcs, _, hl, hm, hz, _, hcell, hwz⟩
    · simp [Value.cells] at hcs
      obtain ⟨rfl, rfl, rfl⟩ := hcs
      exact ⟨[], .inl ⟨rfl, rfl, rfl, rfl⟩⟩
    · simp [Value.cells] at hcs
      obtain ⟨rfl, rfl, rfl⟩ := hcs
      exact ⟨zs, .inr ⟨_, rfl, hl, hm, by simpa using hz, hcell, hwz⟩⟩
  have y0 : len0 * 1 ≤ 140737488351232 := Go.Proofs.YtbnkiikpolcpkaaW.PrintWords.sized_ints hsz (j := 0) (t := 32) rfl rfl Try.underlying32 Try.underlying5 (by kernel_rfl) (by kernel_rfl) h0
  clear hA0 hval0 hsz0 hsz
  refine (PU.laws_FnAfterLot.walk Pure.FnAfterLot a0 len0 cap0 z0 W w0 y0).mono fun e W' ⟨he, bel⟩ => ?_
  subst he
  exact ⟨_, rfl, _, _, _, [], _, [], hW', trodAll_mk1 (shut_bool Try.underlying4 _), (trodAll_cons_mk (Below.trod laidOut (by kernel_rfl) (of_decide_eq_true (by kernel_rfl)) k0 bel lt0) trodAll_mk0), rfl, bel.frame _, fun h => by cases h⟩
theorem over : Rows.fnAfterLotRow.holds Try.pinned (OpenSpec.ofChange Rows.fnAfterLotSpec) :=
  OpenClaim.holds_of_wide 6 Try.f6 rfl rfl rfl rfl rfl rfl rfl ⟨rfl, rfl, rfl, rfl, rfl⟩ rfl rfl rfl rfl rfl (by kernel_rfl) Try.func6 (by kernel_rfl)
    (of_decide_eq_true (by kernel_rfl)) (by unfold Func.isWrapper; first | (rw [if_pos (by decide +kernel)]; kernel_rfl) | (rw [if_neg (by decide +kernel)]; exact ⟨rfl, rfl⟩))
    (fun os started H enc _ => lifted os started H enc)
theorem proved : Rows.FnAfterLotSaid := over
end Go.Proofs.Ytbnkiikpolcpkaa.fnAfterLot
namespace Go.Proofs.Ytbnkiikpolcpkaa
theorem fnAfterLot_holds : Rows.FnAfterLotSaid := fnAfterLot.proved
end Go.Proofs.Ytbnkiikpolcpkaa
