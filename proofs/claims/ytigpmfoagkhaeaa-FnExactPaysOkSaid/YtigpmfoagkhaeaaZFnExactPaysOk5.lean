/- FnExactPaysOk: for every input the law holds, and each argument reads as it read before. No condition. -/
import Derived.Test.YtigpmfoagkhaeaaZFnExactPaysOk1
import Derived.Test.YtigpmfoagkhaeaaZFnExactPaysOk2
import Derived.Test.YtigpmfoagkhaeaaZFnExactPaysOk3
import Derived.Test.YtigpmfoagkhaeaaZFnExactPaysOk4
import Derived.Below
import Derived.Deep.Draws
import Derived.Deep.AppendLies
import Derived.Maps.AppendAt
import Derived.OwnWalk
import Derived.Laws.BytesArg
import Derived.Laws.MakeOwn
import Derived.Laws.OwnMore
import Derived.Deep.OwnRows
import Derived.Tactics
import Derived.Lib.ConvBytes
import Derived.Laws.Slices
import Derived.WalkKit
import Derived.KernelRfl
import Derived.RowKit3
import Derived.Deep.LoopGhost
import Derived.Deep.QuietTactic
import Derived.BigQuiet
import Derived.WideLaws
import Derived.Deep.DeepCutAuto
import Derived.Deep.CutBlock
import Derived.Deep.RegionHeld3
import Derived.Laws.Rows
import Derived.Lib.AppendStr
import Derived.ArgAppend
import Derived.Laws.IdiomCopy
import Derived.RowKit
import Derived.OrdersHeld
import Derived.Laws.BitsLemmas
import Derived.Laws.StructEq
import Derived.Test.YtigpmfoagkhaeaaProg
import Derived.Deep.Slices
import Derived.ChangeArms
import Derived.DataReads
import Derived.Test.YtigpmfoagkhaeaaRows
import Derived.ProofKit
import Derived.OpenShut
import Derived.ShutString
import Derived.ChangeOld
import Derived.SizedLaws
namespace Go.Proofs.Ytigpmfoagkhaeaa.Ow
open Go.RowKit Go.Proofs.Ytigpmfoagkhaeaa.PU Go.Proofs.Ytigpmfoagkhaeaa.Qh Go.Proofs.Ytigpmfoagkhaeaa.Bk Go.Proofs.YtigpmfoagkhaeaaW.PrintWords Go.Proofs.YtigpmfoagkhaeaaW.PrintMore
set_option linter.unusedVariables false
set_option linter.unusedSimpArgs false
def sm (xs : List Int) : Nat → Int
  | 0 => 0
  | i + 1 => sm xs i + rd xs (i : Int)
def ow (c : List Int) (d : List (List Int)) (i : Nat) : Int := sm (rd_L2 d (i : Int)) c.length
def owes (c : List Int) (d : List (List Int)) : List Int := (List.range c.length).map (ow c d)
theorem owes_len (c : List Int) (d : List (List Int)) : (owes c d).length = c.length := by simp [owes]
theorem rd_owes {c : List Int} {d : List (List Int)} {i : Nat} (hi : i < c.length) : rd (owes c d) (i : Int) = ow c d i := by
  rw [rd_get _ _ (by rw [owes_len]; exact hi)]; simp [owes]
theorem sm_bd {c : List Int} {d : List (List Int)} (h : BookP c d) {i : Nat} (hi : i < c.length) : ∀ j : Nat, j ≤ c.length → 0 ≤ sm (rd_L2 d (i : Int)) j ∧ sm (rd_L2 d (i : Int)) j ≤ 9 * j
  | 0, _ => by simp [sm]
  | j + 1, hj => by
    have := sm_bd h hi j (by omega)
    have := (h.2.2.2 i hi).2.2.2.2 j (by omega)
    simp only [sm]; omega
theorem ow_bd {c : List Int} {d : List (List Int)} (h : BookP c d) {i : Nat} (hi : i < c.length) : 0 ≤ ow c d i ∧ ow c d i ≤ 36 := by
  have := sm_bd h hi c.length (Nat.le_refl _); have := h.2.1; unfold ow; omega
def mid (c : List Int) (d : List (List Int)) (i : Nat) (s : Int) : List Int := (List.range c.length).map (fun k => if k < i then ow c d k else if k = i then s else 0)
theorem mid_len (c : List Int) (d : List (List Int)) (i : Nat) (s : Int) : (mid c d i s).length = c.length := by simp [mid]
theorem mid_get {c : List Int} {d : List (List Int)} {i : Nat} {s : Int} (hi : i < c.length) : rd (mid c d i s) (i : Int) = s := by
  rw [rd_get _ _ (by rw [mid_len]; exact hi)]; simp [mid]
theorem mid_set {c : List Int} {d : List (List Int)} {i : Nat} {s v : Int} (hi : i < c.length) : (mid c d i s).set ((i : Int)).toNat v = mid c d i v := by
  apply List.ext_getElem (by simp [mid])
  intro k h1 h2
  simp only [mid, List.getElem_set, List.getElem_map, List.getElem_range, Int.toNat_natCast]
  by_cases e : i = k
  · subst e; simp
  · rw [if_neg e]
    by_cases e2 : k < i
    · simp [e2]
    · simp [e2, Ne.symm e, show ¬ k = i from fun h => e h.symm]
theorem mid_next {c : List Int} {d : List (List Int)} (i : Nat) : mid c d i (ow c d i) = mid c d (i + 1) 0 := by
  unfold mid
  apply List.map_congr_left
  intro k _
  by_cases e : k < i
  · simp [e, show k < i + 1 by omega]
  · by_cases e2 : k = i
    · subst e2; simp
    · simp [e, e2, show ¬ k < i + 1 by omega]
theorem mid_start (c : List Int) (d : List (List Int)) : List.replicate c.length (0 : Int) = mid c d 0 0 := by
  apply List.ext_getElem (by simp [mid])
  intro k h1 h2
  simp [mid]
theorem mid_end (c : List Int) (d : List (List Int)) : mid c d c.length 0 = owes c d := by
  unfold mid owes
  apply List.map_congr_left
  intro k hk
  simp [List.mem_range.mp hk]
theorem io_l1 {c : List Int} {d : List (List Int)} (h : BookP c d) {i : Nat} (hi : i < c.length) {r : List Int} (hR : Ev (fun k => impl_owes.l0 k (mid c d (i + 1) 0) d (d.length : Int) ((i + 1 : Nat) : Int)) r) :
    ∀ (e j : Nat), c.length - j = e → j ≤ c.length → Ev (fun k => impl_owes.l1 k (mid c d i (sm (rd_L2 d (i : Int)) j)) (i : Int) d (d.length : Int) (i : Int) (rd_L2 d (i : Int)) ((rd_L2 d (i : Int)).length : Int) (j : Int)) r := by
  have h4 := h.2.1
  have hdl := h.2.2.1
  have hrl := (h.2.2.2 i hi).2.2.1
  have hs : wrap64 ((i : Int) + 1) = ((i + 1 : Nat) : Int) := wsucc hi (by omega)
  intro e
  induction e with
  | zero =>
    intro j he hj
    obtain rfl : j = c.length := by omega
    refine Ev.step (fun k => by rw [impl_owes.l1]) ?_
    rw [hs]
    refine evNeg (by omega) ?_
    have : mid c d i (sm (rd_L2 d (i : Int)) c.length) = mid c d (i + 1) 0 := mid_next i
    rw [this]
    exact hR
  | succ e ih =>
    intro j he hj
    have hlt : j < c.length := by omega
    have hj1 : wrap64 ((j : Int) + 1) = ((j + 1 : Nat) : Int) := wsucc hlt (by omega)
    have hb := sm_bd h hi j (by omega)
    have hx := (h.2.2.2 i hi).2.2.2.2 j hlt
    have hw : wrap64 (sm (rd_L2 d (i : Int)) j + rd (rd_L2 d (i : Int)) (j : Int)) = sm (rd_L2 d (i : Int)) (j + 1) := by rw [w64 (by omega) (by omega)]; rfl
    have hml := mid_len c d i (sm (rd_L2 d (i : Int)) j)
    refine Ev.step (fun k => by rw [impl_owes.l1]) ?_
    refine evPos (by omega) (evPos (by omega) (evPos (by omega) (evPos (by omega) (evPos (by omega) ?_))))
    rw [mid_get hi, hw, hj1, mid_set hi]
    exact ih (j + 1) (by omega) (by omega)
theorem io_l0 {c : List Int} {d : List (List Int)} (h : BookP c d) : ∀ (e i : Nat), c.length - i = e → i ≤ c.length → Ev (fun k => impl_owes.l0 k (mid c d i 0) d (d.length : Int) (i : Int)) (owes c d) := by
  have hdl := h.2.2.1
  intro e
  induction e with
  | zero =>
    intro i he hi
    obtain rfl : i = c.length := by omega
    refine Ev.step (fun k => by rw [impl_owes.l0]) ?_
    exact evNeg (by omega) (evEq (Ev.now _) (mid_end c d))
  | succ e ih =>
    intro i he hi
    refine Ev.step (fun k => by rw [impl_owes.l0]) ?_
    refine evPos (by omega) (evPos (by omega) (evPos (by omega) ?_))
    exact io_l1 h (by omega) (ih (i + 1) (by omega) (by omega)) _ 0 rfl (by omega)
theorem iowes {c : List Int} {d : List (List Int)} (h : BookP c d) : Ev (fun k => impl_owes.f k c d) (owes c d) := by
  have h4 := h.2.1
  unfold impl_owes.f
  refine evPos (by omega) (evPos (by omega) ?_)
  rw [Int.toNat_natCast, mid_start c d]
  exact io_l0 h _ 0 rfl (by omega)
theorem so_l1 {c : List Int} {d : List (List Int)} (h : BookP c d) {i : Nat} (hi : i < c.length) {x : List Int} (hx : x.length ≤ 4) {r : List Int} (hR : Ev (fun k => spec_OwesOf.l0 k (x ++ [ow c d i]) ((i + 1 : Nat) : Int) c d) r) :
    ∀ (e j : Nat), c.length - j = e → j ≤ c.length → Ev (fun k => spec_OwesOf.l1 k x (i : Int) (sm (rd_L2 d (i : Int)) j) (j : Int) c d) r := by
  have h4 := h.2.1
  have hdl := h.2.2.1
  have hrl := (h.2.2.2 i hi).2.2.1
  have hs : wrap64 ((i : Int) + 1) = ((i + 1 : Nat) : Int) := wsucc hi (by omega)
  intro e
  induction e with
  | zero =>
    intro j he hj
    obtain rfl : j = c.length := by omega
    refine Ev.step (fun k => by rw [spec_OwesOf.l1]) ?_
    rw [hs]
    exact evNeg (by omega) (evPos (by omega) hR)
  | succ e ih =>
    intro j he hj
    have hlt : j < c.length := by omega
    have hj1 : wrap64 ((j : Int) + 1) = ((j + 1 : Nat) : Int) := wsucc hlt (by omega)
    have hb := sm_bd h hi j (by omega)
    have hx := (h.2.2.2 i hi).2.2.2.2 j hlt
    have hw : wrap64 (sm (rd_L2 d (i : Int)) j + rd (rd_L2 d (i : Int)) (j : Int)) = sm (rd_L2 d (i : Int)) (j + 1) := by rw [w64 (by omega) (by omega)]; rfl
    refine Ev.step (fun k => by rw [spec_OwesOf.l1]) ?_
    refine evPos (by omega) (evPos (by omega) (evPos (by omega) (evPos (by omega) (evPos (by omega) ?_))))
    rw [hw, hj1]
    exact ih (j + 1) (by omega) (by omega)
theorem so_l0 {c : List Int} {d : List (List Int)} (h : BookP c d) : ∀ (e i : Nat), c.length - i = e → i ≤ c.length → Ev (fun k => spec_OwesOf.l0 k ((List.range i).map (ow c d)) (i : Int) c d) (owes c d) := by
  have h4 := h.2.1
  intro e
  induction e with
  | zero =>
    intro i he hi
    obtain rfl : i = c.length := by omega
    refine Ev.step (fun k => by rw [spec_OwesOf.l0]) ?_
    refine evNeg (by omega) (Ev.step (fun k => by rw [spec_OwesOf.j1]) ?_)
    exact evNeg (by decide) (Ev.now _)
  | succ e ih =>
    intro i he hi
    refine Ev.step (fun k => by rw [spec_OwesOf.l0]) ?_
    refine evPos (by omega) (Ev.bind ((bookOk c d).yes h) (Ev.step (fun k => by rw [spec_OwesOf.j1]) ?_))
    refine evPos rfl ?_
    have hi' := ih (i + 1) (by omega) (by omega)
    rw [List.range_succ, List.map_append] at hi'
    exact so_l1 h (by omega) (by simp; omega) hi' _ 0 rfl (by omega)
theorem sowes {c : List Int} {d : List (List Int)} (h : BookP c d) : Ev (fun k => spec_OwesOf.f k c d) (owes c d) := by
  unfold spec_OwesOf.f
  exact so_l0 h _ 0 rfl (by omega)
theorem sowes_no {c : List Int} {d : List (List Int)} (h : ¬ BookP c d) : Ev (fun k => spec_OwesOf.f k c d) [] := by
  unfold spec_OwesOf.f
  refine Ev.step (fun k => by rw [spec_OwesOf.l0]) ?_
  by_cases h0 : (0 : Int) < (c.length : Int)
  · refine evPos h0 (Ev.bind ((bookOk c d).no h) (Ev.step (fun k => by rw [spec_OwesOf.j1]) ?_))
    exact evNeg (by decide) (Ev.now _)
  · refine evNeg h0 (Ev.step (fun k => by rw [spec_OwesOf.j1]) ?_)
    exact evNeg (by decide) (Ev.now _)
end Go.Proofs.Ytigpmfoagkhaeaa.Ow

namespace Go.Proofs.Ytigpmfoagkhaeaa.PU
open Go.RowKit Go.Proofs.YtigpmfoagkhaeaaW.PrintWords Go.Proofs.YtigpmfoagkhaeaaW.PrintLast Go.Proofs.YtigpmfoagkhaeaaW.PrintMore
attribute [local go_sem] max2_int min2_int max_two min_two max_three min_three max_four min_four   -- for this text's walks alone
set_option linter.unusedVariables false
set_option linter.unusedSimpArgs false
end Go.Proofs.Ytigpmfoagkhaeaa.PU

namespace Go.Proofs.Ytigpmfoagkhaeaa.PU
open Go.RowKit Go.Proofs.YtigpmfoagkhaeaaW.PrintWords Go.Proofs.YtigpmfoagkhaeaaW.PrintLast Go.Proofs.YtigpmfoagkhaeaaW.PrintMore
attribute [local go_sem] max2_int min2_int max_two min_two max_three min_three max_four min_four   -- for this text's walks alone
set_option linter.unusedVariables false
set_option linter.unusedSimpArgs false
end Go.Proofs.Ytigpmfoagkhaeaa.PU

namespace Go.Proofs.Ytigpmfoagkhaeaa.Fr
open Go.RowKit Go.Proofs.Ytigpmfoagkhaeaa.PU Go.Proofs.Ytigpmfoagkhaeaa.Qh Go.Proofs.YtigpmfoagkhaeaaW.PrintWords Go.Proofs.YtigpmfoagkhaeaaW.PrintMore
set_option linter.unusedVariables false
set_option linter.unusedSimpArgs false
def FracP (u d : Int) : Prop := -1000000000 ≤ u ∧ u ≤ 1000000000 ∧ 1 ≤ d ∧ d ≤ 1000000000 ∧ Int.gcd u d = 1
instance (u d : Int) : Decidable (FracP u d) := by unfold FracP; infer_instance
theorem gcd_tmod (a b : Int) : Int.gcd b (Int.tmod a b) = Int.gcd a b := by
  unfold Int.gcd
  rw [Int.natAbs_tmod, Nat.gcd_comm b.natAbs, ← Nat.gcd_rec b.natAbs a.natAbs, Nat.gcd_comm]
theorem tmod_lt (a b : Int) (hb : b ≠ 0) : (Int.tmod a b).natAbs < b.natAbs := by
  rw [Int.natAbs_tmod]; exact Nat.mod_lt _ (by omega)
theorem igcd_l : ∀ (n : Nat) (a b : Int), b.natAbs ≤ n → a.natAbs ≤ 9223372036854775807 → b.natAbs ≤ 9223372036854775807 → Ev (fun k => impl_gcd.l0 k a b) ((Int.gcd a b : Nat) : Int) := by
  intro n
  induction n with
  | zero =>
    intro a b hn ha hb
    obtain rfl : b = 0 := by omega
    refine Ev.step (fun k => by rw [impl_gcd.l0]) ?_
    refine evPos rfl ?_
    have e : mx a (wrap64 (-a)) = ((Int.gcd a 0 : Nat) : Int) := by
      rw [w64 (by omega) (by omega), Int.gcd_zero_right]
      unfold mx
      split <;> omega
    rw [e]
    exact Ev.now _
  | succ n ih =>
    intro a b hn ha hb
    by_cases h0 : b = 0
    · exact ih a b (by omega) ha hb
    · refine Ev.step (fun k => by rw [impl_gcd.l0]) ?_
      refine evNeg h0 ?_
      have hlt := tmod_lt a b h0
      rw [← gcd_tmod a b]
      exact ih b (Int.tmod a b) (by omega) hb (by omega)
theorem igcd (a b : Int) (ha : a.natAbs ≤ 9223372036854775807) (hb : b.natAbs ≤ 9223372036854775807) : Ev (fun k => impl_gcd.f k a b) ((Int.gcd a b : Nat) : Int) := by
  unfold impl_gcd.f
  exact igcd_l b.natAbs a b (Nat.le_refl _) ha hb
theorem sdiv_l : ∀ (n : Nat) (a b : Int), b.natAbs ≤ n → 0 ≤ a → 0 ≤ b → Ev (fun k => spec_l1Divisor.l0 k a b) ((Int.gcd a b : Nat) : Int) := by
  intro n
  induction n with
  | zero =>
    intro a b hn ha hb
    obtain rfl : b = 0 := by omega
    refine Ev.step (fun k => by rw [spec_l1Divisor.l0]) ?_
    refine evNeg (by omega) ?_
    refine evEq (Ev.now _) ?_
    rw [Int.gcd_zero_right]; omega
  | succ n ih =>
    intro a b hn ha hb
    by_cases h0 : b = 0
    · exact ih a b (by omega) ha hb
    · refine Ev.step (fun k => by rw [spec_l1Divisor.l0]) ?_
      refine evPos (by omega) (evNeg h0 ?_)
      have hlt := tmod_lt a b h0
      rw [← gcd_tmod a b]
      exact ih b (Int.tmod a b) (by omega) hb (Int.tmod_nonneg b ha)
theorem sabs (a : Int) (ha : a.natAbs ≤ 9223372036854775807) : spec_l1Abs.f a = some ((a.natAbs : Nat) : Int) := by
  unfold spec_l1Abs.f
  by_cases h : a < 0
  · rw [if_pos h, w64 (by omega) (by omega)]; congr 1; omega
  · rw [if_neg h]; congr 1; omega
theorem sdiv (a b : Int) (ha : a.natAbs ≤ 9223372036854775807) (hb : b.natAbs ≤ 9223372036854775807) : Ev (fun k => spec_l1Divisor.f k a b) ((Int.gcd a b : Nat) : Int) := by
  unfold spec_l1Divisor.f
  refine evBind0 (sabs a ha) (evBind0 (sabs b hb) ?_)
  have e : Int.gcd (a.natAbs : Int) (b.natAbs : Int) = Int.gcd a b := by unfold Int.gcd; simp
  rw [← e]
  exact sdiv_l _ _ _ (Nat.le_refl _) (by omega) (by omega)
theorem isFrac (u d : Int) : EvB (fun k => impl_isFrac.f k u d) (FracP u d) := by
  unfold impl_isFrac.f
  by_cases h1 : u ≥ -1000000000
  · by_cases h2 : u ≤ 1000000000
    · refine EvB.bind0 (a := true) (by unfold impl_isNumber.f; rw [if_pos h1]; simp [h2]) (EvB.pos rfl ?_)
      by_cases h3 : d ≥ 1
      · refine EvB.pos h3 ?_
        by_cases h4 : d ≤ 1000000000
        · refine EvB.pos h4 (EvB.bind (igcd u d (by omega) (by omega)) ⟨_, ?_, Ev.now _⟩)
          unfold FracP
          constructor
          · intro h; have := beq_iff_eq.mp h; exact ⟨h1, h2, h3, h4, by omega⟩
          · intro h; exact beq_iff_eq.mpr (by have := h.2.2.2.2; omega)
        · exact EvB.neg h4 (EvB.ff (fun h => h4 h.2.2.2.1))
      · exact EvB.neg h3 (EvB.ff (fun h => h3 h.2.2.1))
    · refine EvB.bind0 (a := false) (by unfold impl_isNumber.f; rw [if_pos h1]; simp [h2]) (EvB.neg (by decide) (EvB.ff (fun h => h2 h.2.1)))
  · refine EvB.bind0 (a := false) (by unfold impl_isNumber.f; rw [if_neg h1]) (EvB.neg (by decide) (EvB.ff (fun h => h1 h.1)))
theorem l1In (a lo hi : Int) : spec_l1In.f a lo hi = some (decide (lo ≤ a ∧ a ≤ hi)) := by
  unfold spec_l1In.f
  by_cases h : a ≥ lo
  · rw [if_pos h]; simp [h]
  · rw [if_neg h]; congr 1; symm; exact decide_eq_false (fun h' => h h'.1)
theorem fracOk (u d : Int) : EvB (fun k => spec_FracOk.f k u d) (FracP u d) := by
  unfold spec_FracOk.f
  refine EvB.bind0 (l1In _ _ _) ?_
  by_cases h1 : 1 ≤ d ∧ d ≤ 1000000000
  · refine EvB.pos (decide_eq_true h1) (EvB.bind0 (l1In _ _ _) ?_)
    by_cases h2 : -1000000000 ≤ u ∧ u ≤ 1000000000
    · refine EvB.pos (decide_eq_true h2) (EvB.bind (sdiv u d (by omega) (by omega)) ⟨_, ?_, Ev.now _⟩)
      unfold FracP
      constructor
      · intro h; have := beq_iff_eq.mp h; exact ⟨h2.1, h2.2, h1.1, h1.2, by omega⟩
      · intro h; exact beq_iff_eq.mpr (by have := h.2.2.2.2; omega)
    · exact EvB.neg (by simpa using h2) (EvB.ff (fun h => h2 ⟨h.1, h.2.1⟩))
  · exact EvB.neg (by simpa using h1) (EvB.ff (fun h => h1 ⟨h.2.2.1, h.2.2.2.1⟩))
end Go.Proofs.Ytigpmfoagkhaeaa.Fr

namespace Go.Proofs.Ytigpmfoagkhaeaa.Py
open Go.RowKit Go.Proofs.Ytigpmfoagkhaeaa.PU Go.Proofs.Ytigpmfoagkhaeaa.Qh Go.Proofs.Ytigpmfoagkhaeaa.Bk Go.Proofs.Ytigpmfoagkhaeaa.Ow Go.Proofs.Ytigpmfoagkhaeaa.Fr Go.Proofs.YtigpmfoagkhaeaaW.PrintWords Go.Proofs.YtigpmfoagkhaeaaW.PrintMore
set_option linter.unusedVariables false
set_option linter.unusedSimpArgs false
abbrev fu (ps : List S36) (i : Nat) : Int := (rd_T36 ps (i : Int)).f0
abbrev fd (ps : List S36) (i : Nat) : Int := (rd_T36 ps (i : Int)).f1
def PayP (c : List Int) (d : List (List Int)) (ps : List S36) (i : Nat) : Prop := FracP (fu ps i) (fd ps i) ∧ 0 ≤ fu ps i ∧ fu ps i ≤ ow c d i * fd ps i
def PaysP (c : List Int) (d : List (List Int)) (ps : List S36) : Prop := BookP c d ∧ ps.length = c.length ∧ ∀ i : Nat, i < c.length → PayP c d ps i
theorem mul_bd {a b : Int} {m n : Nat} (ha : a.natAbs ≤ m) (hb : b.natAbs ≤ n) : (a * b).natAbs ≤ m * n := by
  rw [Int.natAbs_mul]; exact Nat.mul_le_mul ha hb
theorem wmul {a b : Int} (m n : Nat) (ha : a.natAbs ≤ m) (hb : b.natAbs ≤ n) (h : m * n ≤ 9223372036854775807) : wrap64 (a * b) = a * b := by
  have := mul_bd ha hb
  exact w64 (by omega) (by omega)
theorem cmp (x y : Int) : cmp_Compare_int.f x y = some (if x < y then -1 else if x > y then 1 else 0) := by
  unfold cmp_Compare_int.f cmp_isNaN_int.f
  simp only [bne_self_eq_false, Option.bind_some, Bool.false_eq_true, if_false]
  by_cases h : x < y
  · simp [h]
  · by_cases h2 : x > y
    · simp [h, h2]
    · simp [h, h2]
theorem icmp {a b p q : Int} (ha : FracP a b) (hp : p.natAbs ≤ 1000000000) (hq : q.natAbs ≤ 1000000000) : impl_compare.f a b p q = some (if a * q < p * b then -1 else if a * q > p * b then 1 else 0) := by
  have h1 := ha.1; have h2 := ha.2.1; have h3 := ha.2.2.1; have h4 := ha.2.2.2.1
  unfold impl_compare.f
  rw [wmul 1000000000 1000000000 (by omega) (by omega) (by omega), wmul 1000000000 1000000000 (by omega) (by omega) (by omega), cmp]
  rfl
theorem sbefore {a b p q : Int} (ha : FracP a b) (hp : FracP p q) : Ev (fun k => spec_BeforeOf.f k a b p q) (if a * q < p * b then -1 else if a * q > p * b then 1 else 0) := by
  have h1 := ha.1; have h2 := ha.2.1; have h3 := ha.2.2.1; have h4 := ha.2.2.2.1
  have g1 := hp.1; have g2 := hp.2.1; have g3 := hp.2.2.1; have g4 := hp.2.2.2.1
  unfold spec_BeforeOf.f
  refine Ev.bind ((fracOk a b).yes ha) (evPos rfl (Ev.bind ((fracOk p q).yes hp) (Ev.step (fun k => by rw [spec_BeforeOf.j0]) ?_)))
  rw [wmul 1000000000 1000000000 (by omega) (by omega) (by omega), wmul 1000000000 1000000000 (by omega) (by omega) (by omega)]
  refine evNeg (by decide) ?_
  by_cases h : a * q < p * b
  · simp only [if_pos h]; exact Ev.now _
  · simp only [if_neg h]
    by_cases h5 : a * q > p * b
    · simp only [if_pos h5]; exact Ev.now _
    · simp only [if_neg h5]; exact Ev.now _
theorem whole_ok {n : Int} (h0 : 0 ≤ n) (h1 : n ≤ 1000000000) : FracP n 1 := ⟨by omega, by omega, by omega, by omega, by simp⟩
theorem cmp_gt (x y : Int) : ((if x < y then (-1 : Int) else if x > y then 1 else 0) > 0) ↔ x > y := by
  by_cases h : x < y
  · rw [if_pos h]; omega
  · rw [if_neg h]
    by_cases h2 : x > y
    · rw [if_pos h2]; omega
    · rw [if_neg h2]; omega
theorem ip_l0 {c : List Int} {d : List (List Int)} (h : BookP c d) (ps : List S36) (hp : ps.length = c.length) : ∀ (e i : Nat), c.length - i = e → i ≤ c.length →
    EvB (fun k => impl_arePays.l0 k ps (owes c d) ((owes c d).length : Int) (i : Int)) (∀ i' : Nat, i ≤ i' → i' < c.length → PayP c d ps i') := by
  have h4 := h.2.1
  have hol := owes_len c d
  intro e
  induction e with
  | zero =>
    intro i he hi
    refine EvB.step (fun k => by rw [impl_arePays.l0]) ?_
    exact EvB.neg (by omega) (EvB.tt (fun i' h1 h2 => by omega))
  | succ e ih =>
    intro i he hi
    have hlt : i < c.length := by omega
    have hs : wrap64 ((i : Int) + 1) = ((i + 1 : Nat) : Int) := wsucc hlt (by omega)
    have hob := ow_bd h hlt
    refine EvB.step (fun k => by rw [impl_arePays.l0]) ?_
    refine EvB.pos (by omega) (EvB.pos (by omega) (EvB.pos (by omega) (EvB.pos (by omega) ?_)))
    obtain ⟨b, hb, hbe⟩ := isFrac (fu ps i) (fd ps i)
    refine EvB.bind hbe ?_
    by_cases h1 : FracP (fu ps i) (fd ps i)
    · refine EvB.pos (hb.2 h1) ?_
      by_cases h2 : fu ps i < 0
      · exact EvB.pos h2 (EvB.ff (fun h => by have := (h i (Nat.le_refl _) hlt).2.1; omega))
      · refine EvB.neg h2 ?_
        rw [rd_owes hlt]
        refine EvB.bind0 (a := (ow c d i, 1)) rfl ?_
        refine EvB.bind0 (icmp (p := ow c d i) (q := 1) h1 (by omega) (by decide)) ?_
        rw [hs]
        by_cases h3 : fu ps i * 1 > ow c d i * fd ps i
        · exact EvB.pos ((cmp_gt _ _).2 h3) (EvB.ff (fun h => by have := (h i (Nat.le_refl _) hlt).2.2; omega))
        · refine EvB.neg (fun h' => h3 ((cmp_gt _ _).1 h')) ?_
          refine (ih (i + 1) (by omega) (by omega)).congr ⟨fun h' i' h5 h6 => ?_, fun h' i' h5 h6 => h' i' (by omega) h6⟩
          by_cases e' : i' = i
          · subst e'; exact ⟨h1, by omega, by omega⟩
          · exact h' i' (by omega) h6
    · exact EvB.neg (fun h' => h1 (hb.1 h')) (EvB.ff (fun h => h1 (h i (Nat.le_refl _) hlt).1))
theorem arePays (c : List Int) (d : List (List Int)) (ps : List S36) : EvB (fun k => impl_arePays.f k c d ps) (PaysP c d ps) := by
  unfold impl_arePays.f
  obtain ⟨b, hb, hbe⟩ := isBook c d
  refine EvB.bind hbe ?_
  by_cases h : BookP c d
  · refine EvB.pos (hb.2 h) (EvB.step (fun k => by rw [impl_arePays.j0]) ?_)
    by_cases hp : ps.length = c.length
    · refine EvB.neg (by rw [hp]; simp) (EvB.bind (iowes h) ?_)
      exact (ip_l0 h ps hp _ 0 rfl (by omega)).congr ⟨fun h' => ⟨h, hp, fun i hi => h' i (by omega) hi⟩, fun h' i _ hi => h'.2.2 i hi⟩
    · exact EvB.pos (bne_iff_ne.mpr (by omega)) (EvB.ff (fun h' => hp h'.2.1))
  · refine EvB.neg (fun h' => h (hb.1 h')) (EvB.step (fun k => by rw [impl_arePays.j0]) ?_)
    exact EvB.pos rfl (EvB.ff (fun h' => h h'.1))
theorem ipays (c : List Int) (d : List (List Int)) (ps : List S36) : EvB (fun k => impl_PaysOk.f k c d ps) (PaysP c d ps) := by
  unfold impl_PaysOk.f
  obtain ⟨b, hb, hbe⟩ := arePays c d ps
  exact EvB.bind hbe ⟨b, hb, Ev.now _⟩
theorem sp_l0 {c : List Int} {d : List (List Int)} (h : BookP c d) (ps : List S36) (hp : ps.length = c.length) : ∀ (e i : Nat), c.length - i = e → i ≤ c.length →
    EvB (fun k => spec_PaysOk.l0 k ps (owes c d) (i : Int) c d) (∀ i' : Nat, i ≤ i' → i' < c.length → PayP c d ps i') := by
  have h4 := h.2.1
  have hol := owes_len c d
  intro e
  induction e with
  | zero =>
    intro i he hi
    refine EvB.step (fun k => by rw [spec_PaysOk.l0]) ?_
    refine EvB.neg (by omega) (EvB.step (fun k => by rw [spec_PaysOk.j1]) ?_)
    refine EvB.neg (by decide) (EvB.bind ((bookOk c d).yes h) (EvB.pos rfl ?_))
    exact ⟨_, ⟨fun _ i' h1 h2 => by omega, fun _ => by rw [hp, hol]; simp⟩, Ev.now _⟩
  | succ e ih =>
    intro i he hi
    have hlt : i < c.length := by omega
    have hs : wrap64 ((i : Int) + 1) = ((i + 1 : Nat) : Int) := wsucc hlt (by omega)
    have hob := ow_bd h hlt
    refine EvB.step (fun k => by rw [spec_PaysOk.l0]) ?_
    refine EvB.pos (by omega) (EvB.step (fun k => by rw [spec_PaysOk.j1]) ?_)
    refine EvB.pos (by rw [hp, hol]; simp) (EvB.pos (by omega) (EvB.pos (by omega) ?_))
    obtain ⟨b, hb, hbe⟩ := fracOk (fu ps i) (fd ps i)
    refine EvB.bind hbe ?_
    by_cases h1 : FracP (fu ps i) (fd ps i)
    · refine EvB.pos (hb.2 h1) ?_
      by_cases h2 : fu ps i < 0
      · exact EvB.pos h2 (EvB.ff (fun h => by have := (h i (Nat.le_refl _) hlt).2.1; omega))
      · refine EvB.neg h2 (EvB.pos (by omega) ?_)
        rw [rd_owes hlt]
        refine EvB.bind (sbefore h1 (whole_ok hob.1 (by omega))) ?_
        rw [hs]
        by_cases h3 : fu ps i * 1 > ow c d i * fd ps i
        · exact EvB.pos ((cmp_gt _ _).2 h3) (EvB.ff (fun h => by have := (h i (Nat.le_refl _) hlt).2.2; omega))
        · refine EvB.neg (fun h' => h3 ((cmp_gt _ _).1 h')) ?_
          refine (ih (i + 1) (by omega) (by omega)).congr ⟨fun h' i' h5 h6 => ?_, fun h' i' h5 h6 => h' i' (by omega) h6⟩
          by_cases e' : i' = i
          · subst e'; exact ⟨h1, by omega, by omega⟩
          · exact h' i' (by omega) h6
    · exact EvB.neg (fun h' => h1 (hb.1 h')) (EvB.ff (fun h => h1 (h i (Nat.le_refl _) hlt).1))
theorem spays (c : List Int) (d : List (List Int)) (ps : List S36) (hps : ps.length ≤ 4611686018427387904) : EvB (fun k => spec_PaysOk.f k c d ps) (PaysP c d ps) := by
  unfold spec_PaysOk.f
  by_cases h : BookP c d
  · refine EvB.bind (sowes h) ?_
    by_cases hp : ps.length = c.length
    · exact (sp_l0 h ps hp _ 0 rfl (by omega)).congr ⟨fun h' => ⟨h, hp, fun i hi => h' i (by omega) hi⟩, fun h' i _ hi => h'.2.2 i hi⟩
    · have hol := owes_len c d
      have hn : ((ps.length : Int) == ((owes c d).length : Int)) = false := beq_eq_false_iff_ne.mpr (by omega)
      refine EvB.step (fun k => by rw [spec_PaysOk.l0]) ?_
      have fin : EvB (fun k => spec_PaysOk.j1 k ps (owes c d) 0 false c d) (PaysP c d ps) := by
        refine EvB.step (fun k => by rw [spec_PaysOk.j1]) ?_
        refine EvB.neg (by decide) (EvB.bind ((bookOk c d).yes h) (EvB.pos rfl ?_))
        exact ⟨_, ⟨fun h' => absurd h' (by rw [hn]; decide), fun h' => absurd h'.2.1 hp⟩, Ev.now _⟩
      rw [hn]
      by_cases h0 : (0 : Int) < (ps.length : Int)
      · exact EvB.pos h0 fin
      · exact EvB.neg h0 fin
  · refine EvB.bind (sowes_no h) ?_
    refine EvB.step (fun k => by rw [spec_PaysOk.l0]) ?_
    have fin : EvB (fun k => spec_PaysOk.j1 k ps [] 0 false c d) (PaysP c d ps) := by
      refine EvB.step (fun k => by rw [spec_PaysOk.j1]) ?_
      exact EvB.neg (by decide) (EvB.bind ((bookOk c d).no h) (EvB.neg (by decide) (EvB.ff (fun h' => h h'.1))))
    by_cases h0 : (0 : Int) < (ps.length : Int)
    · refine EvB.pos h0 ?_
      have hn : ((ps.length : Int) == (([] : List Int).length : Int)) = false := beq_eq_false_iff_ne.mpr (by show (ps.length : Int) ≠ ((0 : Nat) : Int); omega)
      rw [hn]
      exact fin
    · exact EvB.neg h0 fin
end Go.Proofs.Ytigpmfoagkhaeaa.Py

namespace Go.Proofs.Ytigpmfoagkhaeaa.Ti
open Go.RowKit Go.Proofs.Ytigpmfoagkhaeaa.PU Go.Proofs.Ytigpmfoagkhaeaa.Qh Go.Proofs.YtigpmfoagkhaeaaW.PrintWords Go.Proofs.YtigpmfoagkhaeaaW.PrintMore
set_option linter.unusedVariables false
set_option linter.unusedSimpArgs false
theorem toI_l (l : List Int) (hl : l.length ≤ 1048576) : ∀ (d i : Nat) (o : List Int), l.length - i = d → i ≤ l.length → o.length = l.length → (∀ j : Nat, j < i → rd o (j : Int) = rd l (j : Int)) →
    Ev (fun k => laws_toIntS.l0 k l o (i : Int)) l := by
  intro d
  induction d with
  | zero =>
    intro i o hd hi ho hj
    obtain rfl : i = l.length := by omega
    refine Ev.step (fun k => by rw [laws_toIntS.l0]) ?_
    refine evNeg (by omega) ?_
    exact evNow (by rw [ext_rd o l ho (fun j h => hj j (by omega))])
  | succ d ih =>
    intro i o hd hi ho hj
    have hlt : i < l.length := by omega
    have hs : wrap64 ((i : Int) + 1) = ((i + 1 : Nat) : Int) := wsucc hlt (by omega)
    refine Ev.step (fun k => by rw [laws_toIntS.l0]) ?_
    refine evPos (by omega) (evPos (by omega) (evPos (by omega) ?_))
    rw [hs]
    refine ih (i + 1) _ (by omega) (by omega) (by simp [ho]) (fun j h => ?_)
    rw [rd_set _ _ _ _ (by omega) (by omega) (by omega)]
    by_cases e : (i : Int) = j
    · rw [if_pos e, e]
    · rw [if_neg e]; exact hj j (by omega)
theorem toI (l : List Int) (hl : l.length ≤ 1048576) : Ev (fun k => laws_toIntS.f k l) l := by
  unfold laws_toIntS.f
  refine evPos (by omega) (evPos (by omega) ?_)
  exact toI_l l hl l.length 0 _ (by omega) (by omega) (by simp) (fun j h => by omega)
theorem eqI_l (l : List Int) (hl : l.length ≤ 4611686018427387904) : ∀ (d i : Nat), l.length - i = d → i ≤ l.length → Ev (fun k => laws_eqIntS.l0 k l l (i : Int)) true := by
  intro d
  induction d with
  | zero =>
    intro i hd hi
    refine Ev.step (fun k => by rw [laws_eqIntS.l0]) ?_
    exact evNeg (by omega) (Ev.now _)
  | succ d ih =>
    intro i hd hi
    have hlt : i < l.length := by omega
    have hs : wrap64 ((i : Int) + 1) = ((i + 1 : Nat) : Int) := wsucc hlt (by omega)
    refine Ev.step (fun k => by rw [laws_eqIntS.l0]) ?_
    refine evPos (by omega) (evPos (by omega) (evPos (by omega) (evPos rfl ?_)))
    rw [hs]
    exact ih (i + 1) (by omega) (by omega)
theorem eqI (l : List Int) (hl : l.length ≤ 4611686018427387904) : Ev (fun k => laws_eqIntS.f k l l) true := by
  unfold laws_eqIntS.f
  exact evPos rfl (eqI_l l hl l.length 0 (by omega) (by omega))
end Go.Proofs.Ytigpmfoagkhaeaa.Ti

namespace Go.Proofs.Ytigpmfoagkhaeaa.Tb
open Go.RowKit Go.Proofs.Ytigpmfoagkhaeaa.PU Go.Proofs.Ytigpmfoagkhaeaa.Qh Go.Proofs.YtigpmfoagkhaeaaW.PrintWords Go.Proofs.YtigpmfoagkhaeaaW.PrintMore
set_option linter.unusedVariables false
set_option linter.unusedSimpArgs false
def Small (c : List Int) (d : List (List Int)) : Prop := c.length ≤ 1048576 ∧ d.length ≤ 1048576 ∧ ∀ i : Nat, i < d.length → (rd_L2 d (i : Int)).length ≤ 1048576
theorem rL2 (xs : List (List Int)) (i : Nat) : rd_L2 xs (i : Int) = xs.getD i [] := rfl
theorem szI (l : List Int) (hm : l.length ≤ 9223372036854775807) (a : Int) (h0 : 0 ≤ a) (h1 : a ≤ 1048576) : laws_szIntS.f l a = some (if (l.length : Int) ≤ a then a - (l.length : Int) else -1) := by
  unfold laws_szIntS.f
  rw [w64 (by omega) (by omega)]
  by_cases h : (l.length : Int) ≤ a
  · rw [if_neg (by omega), if_pos h]
  · rw [if_pos (by omega), if_neg h]
theorem szSS_l (d : List (List Int)) (hd : d.length ≤ 1048576) (hr : ∀ y ∈ d, y.length ≤ 9223372036854775807) : ∀ (e i : Nat) (a : Int), d.length - i = e → i ≤ d.length → 0 ≤ a → a ≤ 1048576 →
    (∃ t : Int, 0 ≤ t ∧ t ≤ 1048576 ∧ (∀ i' : Nat, i ≤ i' → i' < d.length → (rd_L2 d (i' : Int)).length ≤ 1048576) ∧ Ev (fun k => laws_szIntSS.l0 k d a (i : Int)) t) ∨ Ev (fun k => laws_szIntSS.l0 k d a (i : Int)) (-1) := by
  intro e
  induction e with
  | zero =>
    intro i a he hi h0 h1
    refine .inl ⟨a, h0, h1, fun i' h2 h3 => by omega, Ev.step (fun k => by rw [laws_szIntSS.l0]) (evNeg (by omega) (Ev.now _))⟩
  | succ e ih =>
    intro i a he hi h0 h1
    have hlt : i < d.length := by omega
    have hs : wrap64 ((i : Int) + 1) = ((i + 1 : Nat) : Int) := wsucc hlt (by omega)
    have hm : (rd_L2 d (i : Int)).length ≤ 9223372036854775807 := hr _ (by rw [rL2]; exact getD_mem [] d i hlt)
    by_cases h : ((rd_L2 d (i : Int)).length : Int) ≤ a
    · have hz := szI _ hm a h0 h1
      rw [if_pos h] at hz
      rcases ih (i + 1) (a - ((rd_L2 d (i : Int)).length : Int)) (by omega) (by omega) (by omega) (by omega) with ⟨t, t0, t1, t2, t3⟩ | h3
      · refine .inl ⟨t, t0, t1, fun i' h5 h6 => ?_, ?_⟩
        · by_cases e' : i' = i
          · subst e'; omega
          · exact t2 i' (by omega) h6
        · refine Ev.step (fun k => by rw [laws_szIntSS.l0]) ?_
          refine evPos (by omega) (evPos (by omega) (evBind0 hz (evNeg (by omega) ?_)))
          rw [hs]; exact t3
      · refine .inr ?_
        refine Ev.step (fun k => by rw [laws_szIntSS.l0]) ?_
        refine evPos (by omega) (evPos (by omega) (evBind0 hz (evNeg (by omega) ?_)))
        rw [hs]; exact h3
    · have hz := szI _ hm a h0 h1
      rw [if_neg h] at hz
      refine .inr ?_
      refine Ev.step (fun k => by rw [laws_szIntSS.l0]) ?_
      refine evPos (by omega) (evPos (by omega) (evBind0 hz ?_))
      exact evPos (by omega) (Ev.now _)
theorem szB (c : List Int) (d : List (List Int)) (hc : c.length ≤ 9223372036854775807) (hd : d.length ≤ 9223372036854775807) (hr : ∀ y ∈ d, y.length ≤ 9223372036854775807) (a : Int) (h0 : 0 ≤ a) (h1 : a ≤ 1048576) :
    (∃ t : Int, 0 ≤ t ∧ t ≤ 1048576 ∧ Small c d ∧ Ev (fun k => laws_szBook.f k c d a) t) ∨ Ev (fun k => laws_szBook.f k c d a) (-1) := by
  unfold laws_szBook.f
  have hz := szI c hc a h0 h1
  by_cases h : (c.length : Int) ≤ a
  · rw [if_pos h] at hz
    have hz2 := szI
    by_cases h2 : (d.length : Int) ≤ a - c.length
    · have hw : wrap64 (a - (c.length : Int) - (d.length : Int)) = a - (c.length : Int) - (d.length : Int) := w64 (by omega) (by omega)
      rcases szSS_l d (by omega) hr _ 0 (a - (c.length : Int) - (d.length : Int)) rfl (by omega) (by omega) (by omega) with ⟨t, t0, t1, t2, t3⟩ | h3
      · refine .inl ⟨t, t0, t1, ⟨by omega, by omega, fun i hi => t2 i (by omega) hi⟩, evBind0 hz (evNeg (by omega) (Ev.bind (a := t) ?_ (evNeg (by omega) (Ev.now _))))⟩
        unfold laws_szIntSS.f
        rw [hw]
        exact evNeg (by omega) t3
      · refine .inr (evBind0 hz (evNeg (by omega) (Ev.bind (a := -1) ?_ (evPos (by omega) (Ev.now _)))))
        unfold laws_szIntSS.f
        rw [hw]
        exact evNeg (by omega) h3
    · have hw : wrap64 (a - (c.length : Int) - (d.length : Int)) = a - (c.length : Int) - (d.length : Int) := w64 (by omega) (by omega)
      refine .inr (evBind0 hz (evNeg (by omega) (Ev.bind (a := -1) ?_ (evPos (by omega) (Ev.now _)))))
      unfold laws_szIntSS.f
      rw [hw]
      exact evPos (by omega) (Ev.now _)
  · rw [if_neg h] at hz
    exact .inr (evBind0 hz (evPos (by omega) (Ev.now _)))
theorem toSS_l (l : List (List Int)) (hl : l.length ≤ 1048576) (hr : ∀ i : Nat, i < l.length → (rd_L2 l (i : Int)).length ≤ 1048576) : ∀ (d i : Nat) (o : List (List Int)), l.length - i = d → i ≤ l.length → o.length = l.length → (∀ j : Nat, j < i → o.getD j [] = l.getD j []) →
    Ev (fun k => laws_toIntSS.l0 k l o (i : Int)) l := by
  intro d
  induction d with
  | zero =>
    intro i o hd hi ho hj
    refine Ev.step (fun k => by rw [laws_toIntSS.l0]) ?_
    refine evNeg (by omega) (evEq (Ev.now _) ?_)
    exact ext_getD [] _ _ ho (fun j h => hj j (by omega))
  | succ d ih =>
    intro i o hd hi ho hj
    have hlt : i < l.length := by omega
    have hs : wrap64 ((i : Int) + 1) = ((i + 1 : Nat) : Int) := wsucc hlt (by omega)
    refine Ev.step (fun k => by rw [laws_toIntSS.l0]) ?_
    refine evPos (by omega) (evPos (by omega) (Ev.bind (Ti.toI _ (hr i hlt)) ?_))
    refine evPos (by omega) ?_
    rw [hs, Int.toNat_natCast]
    refine ih (i + 1) _ (by omega) (by omega) (by rw [List.length_set]; exact ho) (fun j h => ?_)
    rw [getD_set _ _ _ _ _ (by omega)]
    by_cases e : i = j
    · subst e; rw [if_pos rfl]; rfl
    · rw [if_neg e]; exact hj j (by omega)
theorem toSS (l : List (List Int)) (hl : l.length ≤ 1048576) (hr : ∀ i : Nat, i < l.length → (rd_L2 l (i : Int)).length ≤ 1048576) : Ev (fun k => laws_toIntSS.f k l) l := by
  unfold laws_toIntSS.f
  refine evPos (by omega) (evPos (by omega) ?_)
  exact toSS_l l hl hr l.length 0 _ (by omega) (by omega) (by simp) (fun j h => by omega)
theorem toB (c : List Int) (d : List (List Int)) (h : Small c d) : Ev (fun k => laws_toBook.f k c d) (c, d) := by
  unfold laws_toBook.f
  exact Ev.bind (Ti.toI c h.1) (Ev.bind (toSS d h.2.1 h.2.2) (Ev.now _))
theorem eqSS_l (l : List (List Int)) (hl : l.length ≤ 1048576) (hr : ∀ i : Nat, i < l.length → (rd_L2 l (i : Int)).length ≤ 1048576) : ∀ (d i : Nat), l.length - i = d → i ≤ l.length → Ev (fun k => laws_eqIntSS.l0 k l l (i : Int)) true := by
  intro d
  induction d with
  | zero =>
    intro i hd hi
    exact Ev.step (fun k => by rw [laws_eqIntSS.l0]) (evNeg (by omega) (Ev.now _))
  | succ d ih =>
    intro i hd hi
    have hlt : i < l.length := by omega
    have hs : wrap64 ((i : Int) + 1) = ((i + 1 : Nat) : Int) := wsucc hlt (by omega)
    refine Ev.step (fun k => by rw [laws_eqIntSS.l0]) ?_
    refine evPos (by omega) (evPos (by omega) (evPos (by omega) (Ev.bind (Ti.eqI _ (by have := hr i hlt; omega)) ?_)))
    refine evPos rfl ?_
    rw [hs]
    exact ih (i + 1) (by omega) (by omega)
theorem eqB (c : List Int) (d : List (List Int)) (h : Small c d) : Ev (fun k => laws_eqBook.f k c d c d) true := by
  unfold laws_eqBook.f
  refine Ev.bind (Ti.eqI c (by have := h.1; omega)) (evPos rfl (Ev.bind (a := true) ?_ (evPos rfl (Ev.now _))))
  unfold laws_eqIntSS.f
  exact evPos rfl (eqSS_l d h.2.1 h.2.2 d.length 0 (by omega) (by omega))
end Go.Proofs.Ytigpmfoagkhaeaa.Tb

namespace Go.Proofs.Ytigpmfoagkhaeaa.Tf
open Go.RowKit Go.Proofs.Ytigpmfoagkhaeaa.PU Go.Proofs.Ytigpmfoagkhaeaa.Qh Go.Proofs.YtigpmfoagkhaeaaW.PrintWords Go.Proofs.YtigpmfoagkhaeaaW.PrintMore
set_option linter.unusedVariables false
set_option linter.unusedSimpArgs false
abbrev W := S36
abbrev L := S68
def cv (x : L) : W := ⟨x.f0, x.f1⟩
theorem szW (l : List L) (a : Int) (h0 : 0 ≤ a) (h1 : a ≤ 1048576) (hm : l.length ≤ 9223372036854775807) : laws_szFracS.f l a = some (if (l.length : Int) ≤ a then a - (l.length : Int) else -1) := by
  unfold laws_szFracS.f
  rw [w64 (by omega) (by omega)]
  by_cases h : (l.length : Int) ≤ a
  · rw [if_neg (by omega), if_pos h]
  · rw [if_pos (by omega), if_neg h]
theorem toW_l (l : List L) (hl : l.length ≤ 1048576) : ∀ (d i : Nat) (o : List W), l.length - i = d → i ≤ l.length → o.length = l.length → (∀ j : Nat, j < i → o.getD j z36 = cv (l.getD j z68)) →
    Ev (fun k => laws_toFracS.l0 k l o (i : Int)) (l.map cv) := by
  intro d
  induction d with
  | zero =>
    intro i o hd hi ho hj
    obtain rfl : i = l.length := by omega
    refine Ev.step (fun k => by rw [laws_toFracS.l0]) ?_
    refine evNeg (by omega) ?_
    refine evNow ?_
    rw [ext_getD z36 o (l.map cv) (by simp [ho]) (fun j h => by rw [hj j (by omega), getD_map cv z68 _ l j (by omega)])]
  | succ d ih =>
    intro i o hd hi ho hj
    have hlt : i < l.length := by omega
    have hs : wrap64 ((i : Int) + 1) = ((i + 1 : Nat) : Int) := wsucc hlt (by omega)
    refine Ev.step (fun k => by rw [laws_toFracS.l0]) ?_
    refine evPos (by omega) (evPos (by omega) (evBind0 rfl (evPos (by omega) ?_)))
    rw [hs, Int.toNat_natCast]
    refine ih (i + 1) _ (by omega) (by omega) (by simp [ho]) (fun j h => ?_)
    rw [getD_set _ _ _ _ _ (by omega)]
    by_cases e : i = j
    · subst e; rw [if_pos rfl]; rfl
    · rw [if_neg e]; exact hj j (by omega)
theorem toW (l : List L) (hl : l.length ≤ 1048576) : Ev (fun k => laws_toFracS.f k l) (l.map cv) := by
  unfold laws_toFracS.f
  refine evPos (by omega) (evPos (by omega) ?_)
  exact toW_l l hl l.length 0 _ (by omega) (by omega) (by simp) (fun j h => by omega)
theorem eqW1 (a b : Int) : laws_eqFrac.f a b a b = some true := by unfold laws_eqFrac.f; simp
theorem eqW_l (l : List W) (hl : l.length ≤ 4611686018427387904) : ∀ (d i : Nat), l.length - i = d → i ≤ l.length → Ev (fun k => laws_eqFracS.l0 k l l (i : Int)) true := by
  intro d
  induction d with
  | zero =>
    intro i hd hi
    refine Ev.step (fun k => by rw [laws_eqFracS.l0]) ?_
    exact evNeg (by omega) (Ev.now _)
  | succ d ih =>
    intro i hd hi
    have hlt : i < l.length := by omega
    have hs : wrap64 ((i : Int) + 1) = ((i + 1 : Nat) : Int) := wsucc hlt (by omega)
    refine Ev.step (fun k => by rw [laws_eqFracS.l0]) ?_
    refine evPos (by omega) (evPos (by omega) (evPos (by omega) (evBind0 (eqW1 _ _) (evT rfl ?_))))
    rw [hs]
    exact ih (i + 1) (by omega) (by omega)
theorem eqW (l : List W) (hl : l.length ≤ 4611686018427387904) : Ev (fun k => laws_eqFracS.f k l l) true := by
  unfold laws_eqFracS.f
  exact evPos rfl (eqW_l l hl l.length 0 (by omega) (by omega))
end Go.Proofs.Ytigpmfoagkhaeaa.Tf

namespace Go.Proofs.Ytigpmfoagkhaeaa.Epo
open Go.RowKit Go.Proofs.Ytigpmfoagkhaeaa.PU Go.Proofs.Ytigpmfoagkhaeaa.Qh Go.Proofs.YtigpmfoagkhaeaaW.PrintWords Go.Proofs.YtigpmfoagkhaeaaW.PrintMore
set_option linter.unusedVariables false
set_option linter.unusedSimpArgs false
theorem holds (c : List Int) (d : List (List Int)) (ps : List Tf.L) (hc : c.length ≤ maxLen) (hd : d.length ≤ maxLen) (hr : ∀ y ∈ d, y.length ≤ maxLen) (hp : ps.length ≤ maxLen) : ∃ k, laws_FnExactPaysOk.f k c d ps = some true := by
  refine Ev.rounds (g := fun k => laws_FnExactPaysOk.f k c d ps) ?_
  unfold laws_FnExactPaysOk.f
  unfold maxLen at hc hd hr hp
  rcases Tb.szB c d (by omega) (by omega) (fun y hy => by have := hr y hy; omega) 1048576 (by omega) (by omega) with ⟨t, t0, t1, hs, ht⟩ | ht
  case inr => exact Ev.bind ht (evPos (by omega) (Ev.now _))
  refine Ev.bind ht (evNeg (by omega) ?_)
  have hz := Tf.szW ps t t0 t1 (by omega)
  by_cases hl : (ps.length : Int) ≤ t
  case neg => rw [if_neg hl] at hz; exact evBind0 hz (evPos (by omega) (Ev.now _))
  rw [if_pos hl] at hz
  refine evBind0 hz (evNeg (by omega) ?_)
  have hlm : (ps.map Tf.cv).length = ps.length := List.length_map _
  refine Ev.bind (Tb.toB c d hs) (Ev.bind (Tf.toW ps (by omega)) ?_)
  obtain ⟨b1, hb1, e1⟩ := Py.spays c d (ps.map Tf.cv) (by omega)
  obtain ⟨b2, hb2, e2⟩ := Py.ipays c d (ps.map Tf.cv)
  have hbb : b2 = b1 := Bool.eq_iff_iff.mpr (hb2.trans hb1.symm)
  subst hbb
  refine Ev.bind e1 (Ev.bind (Tb.toB c d hs) (Ev.bind (Tf.toW ps (by omega)) (Ev.bind e2 ?_)))
  refine evF (bne_self_eq_false _) ?_
  refine Ev.bind (Tb.toB c d hs) (Ev.bind (Tb.eqB c d hs) (evT rfl ?_))
  exact Ev.bind (Tf.toW ps (by omega)) (Ev.bind (Tf.eqW _ (by omega)) (evT rfl (Ev.now _)))
end Go.Proofs.Ytigpmfoagkhaeaa.Epo

namespace Go.Proofs.Ytigpmfoagkhaeaa.fnExactPaysOk
open Go.ChangeShapes Go.WideShapes Go.ChangeAt Go.RowKit Go.Proofs.Ytigpmfoagkhaeaa.PU Go.Proofs.YtigpmfoagkhaeaaW.PrintWords
open Go.ChangeMaps (open_string shut_string)
set_option linter.unusedVariables false
theorem own : ownKnob Try.prog.godebug = none := by kernel_rfl
theorem laidOut : laidOutB Try.prog = true := by kernel_rfl
abbrev G3 (_ : Int) : Prop := True
theorem o3 : Op.Opens Try.prog 3 (Kd.int .i64) G3 := Op.opens_int Try.underlying3 (by kernel_rfl)
abbrev G23 (x : List Int) : Prop := x.length ≤ maxLen ∧ ∀ y ∈ x, G3 y
theorem o23 : Op.Opens Try.prog 23 (Kd.slice 3 (Kd.int .i64)) G23 := Op.opens_slice Try.underlying23 (by kernel_rfl) o3
abbrev G24 (x : List (List Int)) : Prop := x.length ≤ maxLen ∧ ∀ y ∈ x, G23 y
theorem o24 : Op.Opens Try.prog 24 (Kd.slice 23 (Kd.slice 3 (Kd.int .i64))) G24 := Op.opens_slice Try.underlying24 (by kernel_rfl) o23
abbrev G38 (x : (List Int) × (List (List Int))) : Prop := G23 x.1 ∧ G24 x.2
theorem o38 : Op.Opens Try.prog 38 (Kd.pair (Kd.slice 3 (Kd.int .i64)) (Kd.slice 23 (Kd.slice 3 (Kd.int .i64)))) G38 := Op.opens_struct Try.underlying38 (by kernel_rfl) (Op.opensF_cons rfl o23 (Op.opensF_one rfl o24))
abbrev G68 (x : S68) : Prop := G3 x.f0 ∧ G3 x.f1
theorem o68 : Op.Opens Try.prog 68 k68 G68 := Op.opens_iso (Op.opens_struct Try.underlying68 (by kernel_rfl) (Op.opensF_cons rfl o3 (Op.opensF_one rfl o3))) (fun x : S68 => (x.f0, x.f1)) (fun z => (⟨z.1, z.2⟩ : S68)) (fun _ => rfl)
abbrev G39 (x : List S68) : Prop := x.length ≤ maxLen ∧ ∀ y ∈ x, G68 y
theorem o39 : Op.Opens Try.prog 39 (Kd.slice 68 k68) G39 := Op.opens_slice Try.underlying39 (by kernel_rfl) o68
set_option maxRecDepth 100000 in
theorem lifted (os : Os) (started : os.Started) (H : Type) (enc : TypeId × Value → H) :
    ReturnsInHanded {} Try.checked os 4 .any (Rows.fnExactPaysOkSpec.pre6 enc Try.prog Try.f4 Rows.fnExactPaysOkRow.domain false) (Rows.fnExactPaysOkSpec.post enc Try.prog Try.f4 false true false false) := by
  refine returnsInHanded_of_change_sized (C := Try.checked) own started (by kernel_rfl) Try.func4
    (ChangeSpec.witness6 (enc := enc) (C := Try.checked) false ⟨#[], #[.agg #[.slice none 0 0, .slice none 0 0], .slice none 0 0], []⟩ 8 (by kernel_rfl) (by kernel_rfl) (by kernel_rfl) (by kernel_rfl)) ?_
  intro W base args ds gs before hval0 hW _ _ _
  have hval : ∀ (j : Nat) t v, Try.f4.params[j]? = some t → args[j]? = some v → Value.okWide Try.prog W .any base t v := hval0
  have hW' := hW
  obtain ⟨p, q, hA0, hV, rfl, _, _⟩ := hW
  have hA : DataW.TrodAll enc Try.prog W 0 (fun _ => true) true Try.f4.params.toList args.toList ds p := hA0
  rw [Try.params4] at hA hval
  obtain ⟨v0, vs0, d0, ds0, p0, q0, hargs, rfl, rfl, h0, r0⟩ := trodAll_cons hA
  obtain ⟨v1, vs1, d1, ds1, p1, q1, rfl, rfl, rfl, h1, r1⟩ := trodAll_cons r0
  obtain ⟨rfl, rfl, rfl⟩ := trodAll_nil r1
  obtain rfl : args = #[v0, v1] := by cases args; simp_all
  obtain ⟨rfl, rfl⟩ := trodVars_none hV
  have k0 := h0
  have lt0 : ∀ x ∈ p0, x.block < W.heap.size := by obtain ⟨m, hm⟩ := k0; exact DataW.trod_lt m _ _ _ hm
  obtain ⟨cs0, x0, rfl, hK0, g0⟩ := Op.open_agg o38 (okWide_struct Try.underlying38 (hval 0 38 v0 rfl rfl)) h0
  obtain ⟨ca0_0, cb0_0, e0_0, hK0_0, hR0_0⟩ := hK0
  obtain ⟨A0_0, c0_0, e20_0, hc0_0, hr0_0⟩ := hK0_0
  obtain ⟨A0_1, c0_1, e20_1, hc0_1, hr0_1⟩ := hR0_0
  obtain rfl : cs0 = #[.slice A0_0 x0.1.length c0_0, .slice A0_1 x0.2.length c0_1] := by apply Array.toList_inj.1; simp only [List.singleton_append, List.cons_append, List.nil_append] at *; first | assumption | (simp_all; done)
  have k1 := h1
  have lt1 : ∀ x ∈ p1, x.block < W.heap.size := by obtain ⟨m, hm⟩ := k1; exact DataW.trod_lt m _ _ _ hm
  obtain ⟨A1, c1, l1, rfl, hc1, hr1, g1⟩ := Op.open_arg o39 (okWide_slice Try.underlying39 (hval 1 39 v1 rfl rfl)) h1
  obtain ⟨k, hk⟩ := Epo.holds x0.1 x0.2 l1 g0.1.1 g0.2.1 (fun y hy => (g0.2.2 y hy).1) g1.1
  refine (laws_FnExactPaysOk.calls k A0_0 c0_0 x0.1 A0_1 c0_1 x0.2 A1 c1 l1 true W hr0_0 hc0_0 hr0_1 hc0_1 hr1 hc1 hk).mono fun e W' ⟨he, bel⟩ => ?_
  subst he
  exact ⟨_, rfl, _, _, _, [], _, [], hW', trodAll_mk1 (shut_bool Try.underlying4 _), (trodAll_cons_mk (Below.trod laidOut (by kernel_rfl) (of_decide_eq_true (by kernel_rfl)) k0 bel lt0) (trodAll_cons_mk (Below.trod laidOut (by kernel_rfl) (of_decide_eq_true (by kernel_rfl)) k1 bel lt1) trodAll_mk0)), rfl, bel.frame _, fun h => by cases h⟩
theorem over : Rows.fnExactPaysOkRow.holds Try.pinned (OpenSpec.ofChange Rows.fnExactPaysOkSpec) :=
  OpenClaim.holds_of_wide 4 Try.f4 rfl rfl rfl rfl rfl rfl rfl ⟨rfl, rfl, rfl, rfl, rfl⟩ rfl rfl rfl rfl rfl (by kernel_rfl) Try.func4 (by kernel_rfl)
    (of_decide_eq_true (by kernel_rfl)) (by unfold Func.isWrapper; first | (rw [if_pos (by decide +kernel)]; kernel_rfl) | (rw [if_neg (by decide +kernel)]; exact ⟨rfl, rfl⟩))
    (fun os started H enc _ => lifted os started H enc)
theorem proved : Rows.FnExactPaysOkSaid := over
end Go.Proofs.Ytigpmfoagkhaeaa.fnExactPaysOk
namespace Go.Proofs.Ytigpmfoagkhaeaa
theorem fnExactPaysOk_holds : Rows.FnExactPaysOkSaid := fnExactPaysOk.proved
end Go.Proofs.Ytigpmfoagkhaeaa
