/- FnWithoutCircles: for every input the law holds. No condition. -/
import Derived.Test.YtfooakkhkehpiaaZFnWithoutCircles1
import Derived.Test.YtfooakkhkehpiaaZFnWithoutCircles2
import Derived.Test.YtfooakkhkehpiaaZFnWithoutCircles3
import Derived.Test.YtfooakkhkehpiaaZFnWithoutCircles4
import Derived.Test.YtfooakkhkehpiaaZFnWithoutCircles5
import Derived.SizedLaws
import Derived.ChangeSlices
import Derived.Test.YtfooakkhkehpiaaRows
import Derived.ProofKit
import Derived.OpenShut
import Derived.ShutString
import Derived.ChangeOld
namespace Go.Proofs.Ytfooakkhkehpiaa.Wi
open Go.RowKit Go.Proofs.Ytfooakkhkehpiaa.PU Go.Proofs.Ytfooakkhkehpiaa.Qh Go.Proofs.Ytfooakkhkehpiaa.Bk Go.Proofs.Ytfooakkhkehpiaa.Mx Go.Proofs.Ytfooakkhkehpiaa.Ow Go.Proofs.Ytfooakkhkehpiaa.Cr Go.Proofs.Ytfooakkhkehpiaa.Sk Go.Proofs.Ytfooakkhkehpiaa.Sn Go.Proofs.YtfooakkhkehpiaaW.PrintWords Go.Proofs.YtfooakkhkehpiaaW.PrintMore
set_option linter.unusedVariables false
set_option linter.unusedSimpArgs false
open Go.Proofs.Ytfooakkhkehpiaa.Ne (nt cs)
variable {c : List Int} {d : List (List Int)}
theorem no_more (h : BookP c d) (ht : tot c d ≤ 0) : (circ c d).length = 0 := by
  apply Classical.byContradiction
  intro hz
  have hq := mem_circ h (getD_mem [] (circ c d) 0 (by omega))
  have h1 := struck_less h hq
  have h2 := tot_bd (struck_ok h hq)
  omega
theorem iWoc : ∀ (N : Nat) (d : List (List Int)) (n : Int), BookP c d → tot c d ≤ (N : Int) → 0 ≤ n → n + N ≤ 1000 → Ev (fun k => impl_withoutCircles.l0 k n c d) (c, (woc c N d n).1, (woc c N d n).2) := by
  intro N
  induction N with
  | zero =>
    intro d n h ht hn hN
    refine Ev.step (fun k => by rw [impl_withoutCircles.l0]) ?_
    refine Ev.bind (Cq.iCircles h) ?_
    have hz := no_more h (by omega)
    exact evPos (by omega) (Ev.now _)
  | succ N ih =>
    intro d n h ht hn hN
    refine Ev.step (fun k => by rw [impl_withoutCircles.l0]) ?_
    refine Ev.bind (Cq.iCircles h) ?_
    by_cases hz : (circ c d).length = 0
    · refine evPos (by omega) (evEq (Ev.now _) ?_)
      rw [woc, if_pos hz]
    · refine evNeg (by omega) (evPos (by omega) ?_)
      have hq := mem_circ h (getD_mem [] (circ c d) 0 (by omega))
      have e1 : rd_L1 (circ c d) 0 = (circ c d).getD 0 [] := rfl
      rw [e1]
      refine Ev.bind (Si.iStruck h hq) ?_
      have hw : wrap64 (n + 1) = n + 1 := w64 (by omega) (by omega)
      rw [hw]
      have h1 := struck_less h hq
      refine evEq (ih _ (n + 1) (struck_ok h hq) (by show tot c (struck c d ((circ c d).getD 0 [])) ≤ (N : Int); omega) (by omega) (by omega)) ?_
      rw [woc, if_neg hz]
theorem iwithout (h : BookP c d) : Ev (fun k => impl_withoutCircles.f k c d) (c, (without c d).1, (without c d).2) := by
  unfold impl_withoutCircles.f
  exact Ev.bind (icopy h) (iWoc 144 d 0 h (tot_bd h).2 (by omega) (by omega))
theorem iWithout (c : List Int) (d : List (List Int)) : Ev (fun k => impl_WithoutCircles.f k c d) (@ite _ (BookP c d) (Classical.propDecidable _) (c, (without c d).1, (without c d).2) ([], [], -1)) := by
  unfold impl_WithoutCircles.f
  by_cases h : BookP c d
  · rw [if_pos h]
    exact Ev.bind ((isBook c d).yes h) (evPos rfl (Ev.bind (iwithout h) (Ev.now _)))
  · rw [if_neg h]
    exact Ev.bind ((isBook c d).no h) (evNeg (by decide) (Ev.now _))
theorem woc_none : ∀ (N : Nat) (d : List (List Int)) (n : Int), BookP c d → tot c d ≤ (N : Int) → (circ c (woc c N d n).1).length = 0
  | 0, d, n, h, ht => by
    show (circ c d).length = 0
    exact no_more h (by omega)
  | N + 1, d, n, h, ht => by
    rw [woc]
    by_cases hz : (circ c d).length = 0
    · rw [if_pos hz]; exact hz
    · rw [if_neg hz]
      have hq := mem_circ h (getD_mem [] (circ c d) 0 (by omega))
      have h1 := struck_less h hq
      exact woc_none N _ _ (struck_ok h hq) (by omega)
theorem woc_nt {j : Nat} (hj : j < c.length) : ∀ (N : Nat) (d : List (List Int)) (n : Int), BookP c d → nt c (woc c N d n).1 j = nt c d j
  | 0, _, _, _ => rfl
  | N + 1, d, n, h => by
    rw [woc]
    by_cases hz : (circ c d).length = 0
    · rw [if_pos hz]
    · rw [if_neg hz]
      have hq := mem_circ h (getD_mem [] (circ c d) 0 (by omega))
      rw [woc_nt hj N _ _ (struck_ok h hq), nt_struck hq hj]
theorem woc_le : ∀ (N : Nat) (d : List (List Int)) (n : Int), BookP c d → ∀ i, i < c.length → ∀ j, j < c.length → db (woc c N d n).1 i j ≤ db d i j
  | 0, _, _, _ => fun _ _ _ _ => Int.le_refl _
  | N + 1, d, n, h => by
    intro i hi j hj
    rw [woc]
    by_cases hz : (circ c d).length = 0
    · rw [if_pos hz]; exact Int.le_refl _
    · rw [if_neg hz]
      have hq := mem_circ h (getD_mem [] (circ c d) 0 (by omega))
      exact Int.le_trans (woc_le N _ _ (struck_ok h hq) i hi j hj) (struck_le h hq i hi j hj)
theorem woc_cnt : ∀ (N : Nat) (d : List (List Int)) (n : Int), BookP c d → n ≤ (woc c N d n).2 ∧ (woc c N d n).2 ≤ n + N ∧ ((woc c N d n).2 = n → (woc c N d n).1 = d) ∧ tot c (woc c N d n).1 ≤ tot c d ∧ (n < (woc c N d n).2 → tot c (woc c N d n).1 < tot c d)
  | 0, d, n, _ => ⟨Int.le_refl _, by show n ≤ n + ((0 : Nat) : Int); omega, fun _ => rfl, Int.le_refl _, fun z => by have : n < n := z; omega⟩
  | N + 1, d, n, h => by
    rw [woc]
    by_cases hz : (circ c d).length = 0
    · rw [if_pos hz]
      exact ⟨Int.le_refl _, by show n ≤ n + ((N + 1 : Nat) : Int); omega, fun _ => rfl, Int.le_refl _, fun z => by have : n < n := z; omega⟩
    · rw [if_neg hz]
      have hq := mem_circ h (getD_mem [] (circ c d) 0 (by omega))
      have h1 := struck_less h hq
      obtain ⟨a1, a2, a3, a4, a5⟩ := woc_cnt N (struck c d ((circ c d).getD 0 [])) (n + 1) (struck_ok h hq)
      exact ⟨by omega, by omega, fun z => by omega, by omega, fun _ => by omega⟩
theorem w_none (h : BookP c d) : (circ c (without c d).1).length = 0 := woc_none _ _ _ h (tot_bd h).2
theorem w_nets (h : BookP c d) : rowF c.length (nt c (without c d).1) = rowF c.length (nt c d) := rowF_congr (fun _ hj => woc_nt hj _ _ _ h)
theorem w_le (h : BookP c d) : ∀ i, i < c.length → ∀ j, j < c.length → db (without c d).1 i j ≤ db d i j := woc_le _ _ _ h
theorem w_cnt (h : BookP c d) : 0 ≤ (without c d).2 ∧ ((without c d).2 = 0 ↔ (without c d).1 = d) := by
  obtain ⟨a1, _, a3, _, a5⟩ := woc_cnt 144 d 0 h
  refine ⟨a1, a3, fun z => ?_⟩
  apply Classical.byContradiction
  intro hz
  have h1 : 0 < (woc c 144 d 0).2 := by
    have : (woc c 144 d 0).2 ≠ 0 := hz
    omega
  have h2 := a5 h1
  have h3 : (woc c 144 d 0).1 = d := z
  rw [h3] at h2
  omega
end Go.Proofs.Ytfooakkhkehpiaa.Wi
namespace Go.Proofs.Ytfooakkhkehpiaa.Eq
open Go.RowKit Go.Proofs.Ytfooakkhkehpiaa.PU Go.Proofs.Ytfooakkhkehpiaa.Qh Go.Proofs.Ytfooakkhkehpiaa.Bk Go.Proofs.Ytfooakkhkehpiaa.Mx Go.Proofs.YtfooakkhkehpiaaW.PrintWords Go.Proofs.YtfooakkhkehpiaaW.PrintMore
set_option linter.unusedVariables false
set_option linter.unusedSimpArgs false
theorem ext_rd {a b : List Int} (hl : a.length = b.length) (h : ∀ i : Nat, i < a.length → rd a (i : Int) = rd b (i : Int)) : a = b := by
  apply List.ext_getElem hl
  intro i h1 h2
  have := h i h1
  rw [rd_get a i h1, rd_get b i h2] at this
  exact this
theorem ext_row {a b : List (List Int)} (hl : a.length = b.length) (h : ∀ i : Nat, i < a.length → rd_L1 a (i : Int) = rd_L1 b (i : Int)) : a = b := by
  apply List.ext_getElem hl
  intro i h1 h2
  have := h i h1
  rw [rL, rL, List.getD_eq_getElem?_getD, List.getD_eq_getElem?_getD, List.getElem?_eq_getElem h1, List.getElem?_eq_getElem h2] at this
  exact this
theorem eqI_l (a b : List Int) (ha : a.length ≤ 4611686018427387904) (hl : a.length = b.length) : ∀ (e i : Nat), a.length - i = e → i ≤ a.length → EvB (fun k => laws_sameInts.l0 k a b (i : Int)) (∀ i' : Nat, i ≤ i' → i' < a.length → rd a (i' : Int) = rd b (i' : Int)) := by
  intro e
  induction e with
  | zero =>
    intro i he hi
    refine EvB.step (fun k => by rw [laws_sameInts.l0]) ?_
    exact EvB.neg (by omega) (EvB.tt (fun i' h1 h2 => by omega))
  | succ e ih =>
    intro i he hi
    have hlt : i < a.length := by omega
    have hs : wrap64 ((i : Int) + 1) = ((i + 1 : Nat) : Int) := wsucc hlt ha
    refine EvB.step (fun k => by rw [laws_sameInts.l0]) ?_
    rw [hs]
    refine EvB.pos (by omega) (EvB.pos (by omega) (EvB.pos (by omega) ?_))
    by_cases h : rd a (i : Int) = rd b (i : Int)
    · refine EvB.pos h ((ih (i + 1) (by omega) (by omega)).congr ⟨fun z i' h1 h2 => ?_, fun z i' h1 h2 => z i' (by omega) h2⟩)
      by_cases e' : i' = i
      · subst e'; exact h
      · exact z i' (by omega) h2
    · exact EvB.neg h (EvB.ff (fun z => h (z i (Nat.le_refl _) hlt)))
theorem eqI (a b : List Int) (ha : a.length ≤ 4611686018427387904) : EvB (fun k => laws_sameInts.f k a b) (a = b) := by
  unfold laws_sameInts.f
  by_cases hl : a.length = b.length
  · exact EvB.pos (by omega) ((eqI_l a b ha hl _ 0 rfl (by omega)).congr ⟨fun z => ext_rd hl (fun i hi => z i (by omega) hi), fun z i' _ _ => by rw [z]⟩)
  · exact EvB.neg (by omega) (EvB.ff (fun z => hl (by rw [z])))
theorem eqR_l (a b : List (List Int)) (ha : a.length ≤ 4611686018427387904) (hr : ∀ i : Nat, i < a.length → (rd_L1 a (i : Int)).length ≤ 4611686018427387904) (hl : a.length = b.length) : ∀ (e i : Nat), a.length - i = e → i ≤ a.length → EvB (fun k => laws_sameRows.l0 k a b (i : Int)) (∀ i' : Nat, i ≤ i' → i' < a.length → rd_L1 a (i' : Int) = rd_L1 b (i' : Int)) := by
  intro e
  induction e with
  | zero =>
    intro i he hi
    refine EvB.step (fun k => by rw [laws_sameRows.l0]) ?_
    exact EvB.neg (by omega) (EvB.tt (fun i' h1 h2 => by omega))
  | succ e ih =>
    intro i he hi
    have hlt : i < a.length := by omega
    have hs : wrap64 ((i : Int) + 1) = ((i + 1 : Nat) : Int) := wsucc hlt ha
    refine EvB.step (fun k => by rw [laws_sameRows.l0]) ?_
    rw [hs]
    obtain ⟨t, ht, hev⟩ := eqI (rd_L1 a (i : Int)) (rd_L1 b (i : Int)) (hr i hlt)
    refine EvB.pos (by omega) (EvB.pos (by omega) (EvB.pos (by omega) (EvB.bind hev ?_)))
    by_cases h : rd_L1 a (i : Int) = rd_L1 b (i : Int)
    · refine EvB.pos (ht.2 h) ((ih (i + 1) (by omega) (by omega)).congr ⟨fun z i' h1 h2 => ?_, fun z i' h1 h2 => z i' (by omega) h2⟩)
      by_cases e' : i' = i
      · subst e'; exact h
      · exact z i' (by omega) h2
    · exact EvB.neg (fun z => h (ht.1 z)) (EvB.ff (fun z => h (z i (Nat.le_refl _) hlt)))
theorem eqR (a b : List (List Int)) (ha : a.length ≤ 4611686018427387904) (hr : ∀ i : Nat, i < a.length → (rd_L1 a (i : Int)).length ≤ 4611686018427387904) : EvB (fun k => laws_sameRows.f k a b) (a = b) := by
  unfold laws_sameRows.f
  by_cases hl : a.length = b.length
  · exact EvB.pos (by omega) ((eqR_l a b ha hr hl _ 0 rfl (by omega)).congr ⟨fun z => ext_row hl (fun i hi => z i (by omega) hi), fun z i' _ _ => by rw [z]⟩)
  · exact EvB.neg (by omega) (EvB.ff (fun z => hl (by rw [z])))
theorem eqB {c : List Int} {d : List (List Int)} (h : BookP c d) (c' : List Int) (d' : List (List Int)) : EvB (fun k => laws_sameBook.f k c d c' d') (c = c' ∧ d = d') := by
  have h4 := h.2.1
  have hdl := h.2.2.1
  unfold laws_sameBook.f
  obtain ⟨t, ht, hev⟩ := eqI c c' (by omega)
  refine EvB.bind hev ?_
  by_cases hc : c = c'
  · refine EvB.pos (ht.2 hc) ?_
    obtain ⟨u, hu, heu⟩ := eqR d d' (by omega) (fun i hi => by have := (h.2.2.2 i (by omega)).2.2.1; omega)
    exact EvB.bind heu ⟨u, hu.trans ⟨fun z => ⟨hc, z⟩, fun z => z.2⟩, Ev.now _⟩
  · exact EvB.neg (fun z => hc (ht.1 z)) (EvB.ff (fun z => hc z.1))
end Go.Proofs.Ytfooakkhkehpiaa.Eq
namespace Go.Proofs.Ytfooakkhkehpiaa.Dr
open Go.RowKit Go.Proofs.Ytfooakkhkehpiaa.PU Go.Proofs.Ytfooakkhkehpiaa.Qh Go.Proofs.YtfooakkhkehpiaaW.PrintWords Go.Proofs.YtfooakkhkehpiaaW.PrintMore
set_option linter.unusedVariables false
set_option linter.unusedSimpArgs false
theorem xor_nonneg (a b : Int) (ha : 0 ≤ a) (ha2 : a < 4611686018427387904) (hb : 0 ≤ b) (hb2 : b < 4611686018427387904) : 0 ≤ Go.bits .xor .i64 a b := by
  obtain ⟨m, rfl⟩ := Int.eq_ofNat_of_zero_le ha
  obtain ⟨n, rfl⟩ := Int.eq_ofNat_of_zero_le hb
  have hm : m < 2 ^ 62 := by omega
  have hn : n < 2 ^ 62 := by omega
  have hx : m ^^^ n < 2 ^ 62 := Nat.xor_lt_two_pow hm hn
  have e1 : m % 2 ^ 64 = m := Nat.mod_eq_of_lt (by omega)
  have e2 : n % 2 ^ 64 = n := Nat.mod_eq_of_lt (by omega)
  have : Go.bits .xor .i64 (m : Int) (n : Int) = ((m ^^^ n : Nat) : Int) := by
    simp only [Go.bits, BitVec.ofInt_natCast, BitVec.toNat_xor, BitVec.toNat_ofNat]
    show IntKind.i64.wrap (((m % 2 ^ 64) ^^^ (n % 2 ^ 64) : Nat) : Int) = _
    rw [e1, e2, IntKind.wrap_i64]
    omega
  rw [this]
  omega
def Bytes (b : List Int) : Prop := b.length ≤ 2000 ∧ ∀ x ∈ b, 0 ≤ x ∧ x ≤ 255
theorem rd_byte {b : List Int} (h : Bytes b) (i : Int) : 0 ≤ rd b i ∧ rd b i ≤ 255 := by
  unfold rd
  by_cases hi : i.toNat < b.length
  · exact h.2 _ (getD_mem 0 b _ hi)
  · simp [List.getD_eq_getElem?_getD, List.getElem?_eq_none (by omega : b.length ≤ i.toNat)]
theorem pick {b : List Int} (hb : Bytes b) (p n : Int) (h0 : 0 ≤ p) (h1 : p ≤ 1000000000) :
    ∃ v, 0 ≤ v ∧ (1 ≤ n → v < n) ∧ (n < 1 → v = 0) ∧ Ev (fun k => spec_l20Rd_pick.f k b p n) (v, p + 1) := by
  have hp : wrap64 (p + 1) = p + 1 := w64 (by omega) (by omega)
  have hp1 : wrap64 (p + 1 - 1) = p := by rw [w64 (by omega) (by omega)]; omega
  unfold spec_l20Rd_pick.f
  rw [hp]
  by_cases hn : n < 1
  · refine ⟨0, by omega, by omega, fun _ => rfl, evPos hn ?_⟩
    refine Ev.step (fun k => by rw [spec_l20Rd_pick.j0]) ?_
    exact evPos rfl (Ev.now _)
  by_cases hz : b.length = 0
  · refine ⟨0, by omega, by omega, fun h => absurd h hn, evNeg hn ?_⟩
    refine Ev.step (fun k => by rw [spec_l20Rd_pick.j0]) ?_
    exact evPos (by simp [hz]) (Ev.now _)
  have hlen : 0 < (b.length : Int) := by omega
  by_cases hlt : p < (b.length : Int)
  · have hr := rd_byte hb p
    refine ⟨Int.tmod (rd b p) n, Int.tmod_nonneg _ hr.1, fun _ => Int.tmod_lt_of_pos _ (by omega), fun h => absurd h hn, evNeg hn ?_⟩
    refine Ev.step (fun k => by rw [spec_l20Rd_pick.j0]) ?_
    rw [hp1]
    refine evNeg (fun h => by have := beq_iff_eq.mp h; omega) (evPos hlt (evPos h0 (evNeg (by omega) ?_)))
    rw [w64 (by omega) (by omega)]
    exact Ev.now _
  · have hp7 : wrap64 (p * 7) = p * 7 := w64 (by omega) (by omega)
    have hp73 : wrap64 (p * 7 + 3) = p * 7 + 3 := w64 (by omega) (by omega)
    have hp29 : wrap64 (p * 29) = p * 29 := w64 (by omega) (by omega)
    have i1 := Int.tmod_nonneg (b.length : Int) h0
    have i2 := Int.tmod_lt_of_pos p hlen
    have j1 := Int.tmod_nonneg (b.length : Int) (show 0 ≤ p * 7 + 3 by omega)
    have j2 := Int.tmod_lt_of_pos (p * 7 + 3) hlen
    have d1 : 0 ≤ Int.tdiv p (b.length : Int) := Int.tdiv_nonneg h0 (by omega)
    have d2 : Int.tdiv p (b.length : Int) ≤ p := Int.tdiv_le_self _ h0
    have r1 := rd_byte hb (Int.tmod p (b.length : Int))
    have r2 := rd_byte hb (Int.tmod (p * 7 + 3) (b.length : Int))
    have key : ∃ x, 0 ≤ x ∧ x < 4611686018427387904 ∧ wrap64 ((wrap64 ((wrap64 ((wrap64 ((wrap64 (rd b (Int.tmod p (b.length : Int)))) * 131)) + (wrap64 ((wrap64 (rd b (Int.tmod (p * 7 + 3) (b.length : Int)))) * 1117)))) + (p * 29))) + (wrap64 ((wrap64 (Int.tdiv p (b.length : Int))) * 53))) = x := by
      generalize rd b (Int.tmod p (b.length : Int)) = u at *
      generalize rd b (Int.tmod (p * 7 + 3) (b.length : Int)) = v at *
      generalize Int.tdiv p (b.length : Int) = d at *
      have e1 : wrap64 u = u := w64 (by omega) (by omega)
      have e2 : wrap64 v = v := w64 (by omega) (by omega)
      have e3 : wrap64 d = d := w64 (by omega) (by omega)
      have e4 : wrap64 (u * 131) = u * 131 := w64 (by omega) (by omega)
      have e5 : wrap64 (v * 1117) = v * 1117 := w64 (by omega) (by omega)
      have e6 : wrap64 (d * 53) = d * 53 := w64 (by omega) (by omega)
      have e7 : wrap64 (u * 131 + v * 1117) = u * 131 + v * 1117 := w64 (by omega) (by omega)
      have e8 : wrap64 (u * 131 + v * 1117 + p * 29) = u * 131 + v * 1117 + p * 29 := w64 (by omega) (by omega)
      refine ⟨u * 131 + v * 1117 + p * 29 + d * 53, by omega, by omega, ?_⟩
      rw [e1, e2, e3, e4, e5, e6, e7, e8]
      exact w64 (by omega) (by omega)
    obtain ⟨x, hx0, hx1, hx⟩ := key
    have t0 : 0 ≤ Int.tdiv x 64 := Int.tdiv_nonneg hx0 (by omega)
    have t1 : Int.tdiv x 64 ≤ x := Int.tdiv_le_self _ hx0
    have ht : wrap64 (Int.tdiv x 64) = Int.tdiv x 64 := w64 (by omega) (by omega)
    have hq := xor_nonneg x (Int.tdiv x 64) hx0 hx1 t0 (by omega)
    refine ⟨Int.tmod (Go.bits .xor .i64 x (Int.tdiv x 64)) n, Int.tmod_nonneg _ hq, fun _ => Int.tmod_lt_of_pos _ (by omega), fun h => absurd h hn, evNeg hn ?_⟩
    refine Ev.step (fun k => by rw [spec_l20Rd_pick.j0]) ?_
    rw [hp1, hp7, hp73, hp29, hx, ht]
    refine evNeg (fun h => by have := beq_iff_eq.mp h; omega) (evNeg hlt (evNeg (by omega) (evPos i1 (evPos i2 (evPos j1 (evPos j2 (evNeg (by omega) (Ev.now _))))))))
theorem open_ (l : List Int) (hu : ∀ x ∈ l, (Lit.int .u8 x).wf = true) : ∃ b, Bytes b ∧ spec_l20Open.f l = some (b, 0) := by
  have hb : ∀ x ∈ l, 0 ≤ x ∧ x ≤ 255 := fun x hx => by
    have := hu x hx
    simp [Lit.wf, IntKind.min, IntKind.max, IntKind.bits, IntKind.signed] at this
    omega
  unfold spec_l20Open.f
  by_cases h : (l.length : Int) > 2000
  · exact ⟨l.take 2000, ⟨by rw [List.length_take]; omega, fun x hx => hb x (List.mem_of_mem_take hx)⟩, by rw [if_pos h, if_pos (by omega)]⟩
  · exact ⟨l, ⟨by omega, hb⟩, by rw [if_neg h]⟩
end Go.Proofs.Ytfooakkhkehpiaa.Dr
namespace Go.Proofs.Ytfooakkhkehpiaa.Db
open Go.RowKit Go.Proofs.Ytfooakkhkehpiaa.PU Go.Proofs.Ytfooakkhkehpiaa.Qh Go.Proofs.Ytfooakkhkehpiaa.Dr Go.Proofs.YtfooakkhkehpiaaW.PrintWords Go.Proofs.YtfooakkhkehpiaaW.PrintMore
set_option linter.unusedVariables false
set_option linter.unusedSimpArgs false
def EvX {α : Type} (g : Nat → Option α) (P : α → Prop) : Prop := ∃ r, P r ∧ Ev g r
section
variable {α β : Type} {P Q : α → Prop} {g f : Nat → Option α}
theorem EvX.imp (h : EvX g P) (k : ∀ r, P r → Q r) : EvX g Q := by obtain ⟨r, h1, h2⟩ := h; exact ⟨r, k r h1, h2⟩
theorem EvX.now {r : α} (h : P r) : EvX (fun _ => some r) P := ⟨r, h, Ev.now _⟩
theorem EvX.step {g f : Nat → Option α} (h : ∀ k, g (k + 1) = f k) (k : EvX f P) : EvX g P := by obtain ⟨r, h1, h2⟩ := k; exact ⟨r, h1, Ev.step h h2⟩
theorem EvX.pos {c : Prop} [Decidable c] (h : c) (k : EvX g P) : EvX (fun n => if c then g n else f n) P := by obtain ⟨r, h1, h2⟩ := k; exact ⟨r, h1, evPos h h2⟩
theorem EvX.neg {c : Prop} [Decidable c] (h : ¬ c) (k : EvX f P) : EvX (fun n => if c then g n else f n) P := by obtain ⟨r, h1, h2⟩ := k; exact ⟨r, h1, evNeg h h2⟩
theorem EvX.bind {g : Nat → Option β} {f : Nat → β → Option α} {a : β} (h : Ev g a) (k : EvX (fun n => f n a) P) : EvX (fun n => (g n).bind (f n)) P := by obtain ⟨r, h1, h2⟩ := k; exact ⟨r, h1, Ev.bind h h2⟩
theorem EvX.bind0 {g : Option β} {f : Nat → β → Option α} {a : β} (h : g = some a) (k : EvX (fun n => f n a) P) : EvX (fun n => g.bind (f n)) P := by obtain ⟨r, h1, h2⟩ := k; exact ⟨r, h1, evBind0 h h2⟩
end
theorem podd {b : List Int} (hb : Bytes b) (p n : Int) (hn : 1 ≤ n) (hn2 : n ≤ 1000) (h0 : 0 ≤ p) (h1 : p ≤ 1000000000) : ∃ v, Ev (fun k => spec_l20Rd_odd.f k b p n) (v, p + 1) := by
  obtain ⟨x, _, _, _, hx⟩ := pick hb p n h0 h1
  unfold spec_l20Rd_odd.f
  exact ⟨_, evPos (by omega) (Ev.bind hx (Ev.now _))⟩
end Go.Proofs.Ytfooakkhkehpiaa.Db
namespace Go.Proofs.Ytfooakkhkehpiaa.Db
open Go.RowKit Go.Proofs.Ytfooakkhkehpiaa.PU Go.Proofs.Ytfooakkhkehpiaa.Qh Go.Proofs.Ytfooakkhkehpiaa.Dr Go.Proofs.YtfooakkhkehpiaaW.PrintWords Go.Proofs.YtfooakkhkehpiaaW.PrintMore
set_option linter.unusedVariables false
set_option linter.unusedSimpArgs false
def Sm (r : List Int × List (List Int) × Int) (p m : Int) : Prop := r.1.length ≤ 4 ∧ r.2.1.length ≤ 4 ∧ (∀ i : Nat, (rd_L1 r.2.1 (i : Int)).length ≤ 4) ∧ p ≤ r.2.2 ∧ r.2.2 ≤ p + m
theorem rL2 (xs : List (List Int)) (i : Nat) : rd_L1 xs (i : Int) = xs.getD i [] := rfl
theorem rows_set (ds : List (List Int)) (i : Nat) (v : List Int) (hv : v.length ≤ 4) (h : ∀ j : Nat, (rd_L1 ds (j : Int)).length ≤ 4) (j : Nat) : (rd_L1 (ds.set i v) (j : Int)).length ≤ 4 := by
  rw [rL2]
  by_cases hi : i < ds.length
  · rw [getD_set _ _ _ _ _ hi]
    by_cases e : i = j
    · rw [if_pos e]; exact hv
    · rw [if_neg e]; exact h j
  · rw [List.set_eq_of_length_le (by omega)]; exact h j
theorem rows_all (ds : List (List Int)) (m : Nat) (hm : m ≤ 4) (h : ∀ j : Nat, j < ds.length → (rd_L1 ds (j : Int)).length = m) (j : Nat) : (rd_L1 ds (j : Int)).length ≤ 4 := by
  by_cases hj : j < ds.length
  · rw [h j hj]; exact hm
  · rw [rL2]; simp [List.getD_eq_getElem?_getD, List.getElem?_eq_none (by omega : ds.length ≤ j)]
theorem bk_l1 {b : List Int} (hb : Bytes b) (n : Int) (m : Nat) (hm : m ≤ 4) (kind : Int) (i : Nat) (hi : i < m) (cs : List Int) (ds : List (List Int)) (hds : ds.length = i) (P : List Int × List (List Int) × Int → Prop) (p0 : Int) (hp0 : 0 ≤ p0) (hp1 : p0 ≤ 10000)
    (hR : ∀ (row : List Int) (p : Int), row.length = m → p0 ≤ p → p ≤ p0 + 2 * m → EvX (fun k => spec_l20Book.l0 k n (m : Int) kind ((i + 1 : Nat) : Int) b p cs (ds ++ [row])) P) :
    ∀ (e j : Nat) (row : List Int) (p : Int), m - j = e → j ≤ m → row.length = j → p0 ≤ p → p ≤ p0 + 2 * j →
    EvX (fun k => spec_l20Book.l1 k n (m : Int) kind (i : Int) row (j : Int) b p cs ds) P := by
  have hs : Aside0 (wrap64 ((i : Int) + 1) = ((i + 1 : Nat) : Int)) := ⟨wsucc hi (by omega)⟩
  intro e
  induction e with
  | zero =>
    intro j row p he hj hr h0 h1
    obtain rfl : j = m := by omega
    refine EvX.step (fun k => by rw [spec_l20Book.l1]) ?_
    rw [hs.out]
    exact EvX.neg (by omega) (EvX.pos (by omega) (hR row p hr h0 h1))
  | succ e ih =>
    intro j row p he hj hr h0 h1
    have hlt : j < m := by omega
    have hj1 : Aside0 (wrap64 ((j : Int) + 1) = ((j + 1 : Nat) : Int)) := ⟨wsucc hlt (by omega)⟩
    refine EvX.step (fun k => by rw [spec_l20Book.l1]) ?_
    rw [hj1.out]
    have hc : (j : Int) < (m : Int) := by clear ih hR; omega
    refine EvX.pos hc ?_
    have go : ∀ (v p' : Int), p0 ≤ p' → p' ≤ p0 + 2 * ((j + 1 : Nat) : Int) → EvX (fun k => if row.length < 17592186044416 then spec_l20Book.l1 k n (m : Int) kind (i : Int) (row ++ [v]) ((j + 1 : Nat) : Int) b p' cs ds else none) P := by
      intro v p' h2 h3
      have hl : row.length < 17592186044416 := by clear hj1 hs ih hR; omega
      have q1 : m - (j + 1) = e := by clear hj1 hs ih hR; omega
      have q2 : (row ++ [v]).length = j + 1 := by rw [List.length_append, hr]; rfl
      exact EvX.pos hl (ih (j + 1) (row ++ [v]) p' q1 hlt q2 h2 h3)
    by_cases hij : (i : Int) = (j : Int)
    · exact EvX.pos hij (go 0 p h0 (by omega))
    · refine EvX.neg hij ?_
      obtain ⟨v, _, _, _, hv⟩ := pick hb p 3 (by omega) (by omega)
      refine EvX.bind hv ?_
      by_cases h2 : v > 0
      · refine EvX.pos h2 ?_
        obtain ⟨v2, _, _, _, hv2⟩ := pick hb (p + 1) 10 (by omega) (by omega)
        exact EvX.bind hv2 (go v2 (p + 1 + 1) (by omega) (by omega))
      · exact EvX.neg h2 (go 0 (p + 1) (by omega) (by omega))
theorem bk_l0 {b : List Int} (hb : Bytes b) (n : Int) (hn : 1 ≤ n) (hn2 : n ≤ 1000) (m : Nat) (hm1 : 1 ≤ m) (hm : m ≤ 4) (kind : Int) (hk0 : 0 ≤ kind) (hk1 : kind < 3) : ∀ (e i : Nat) (cs : List Int) (ds : List (List Int)) (p : Int), m - i = e → i ≤ m →
    cs.length = i → ds.length = i → (∀ j : Nat, j < ds.length → (rd_L1 ds (j : Int)).length = m) → 0 ≤ p → p ≤ 100 + 10 * i →
    EvX (fun k => spec_l20Book.l0 k n (m : Int) kind (i : Int) b p cs ds) (fun r => Sm r p (10 * e + 2)) := by
  intro e
  induction e with
  | zero =>
    intro i cs ds p he hi hcs hds hrows h0 h1
    obtain rfl : i = m := by omega
    refine EvX.step (fun k => by rw [spec_l20Book.l0]) ?_
    refine EvX.neg (by omega) ?_
    obtain ⟨v, hv⟩ := podd hb p n hn hn2 h0 (by omega)
    refine EvX.bind hv ?_
    have hall := rows_all ds i hm hrows
    by_cases hvt : v = true
    · refine EvX.pos hvt ?_
      obtain ⟨w, hw0, hw1, _, hw⟩ := pick hb (p + 1) 4 (by omega) (by omega)
      refine EvX.bind hw ?_
      by_cases a : w = 0
      · exact EvX.pos a (EvX.now ⟨by simp, by simp, fun j => by simp [rL2], by show p ≤ p + 1 + 1; omega, by show p + 1 + 1 ≤ _; omega⟩)
      refine EvX.neg a ?_
      by_cases a1 : w = 1
      · refine EvX.pos a1 (EvX.pos (by omega) (EvX.now ⟨by simp; omega, by show ds.length ≤ 4; omega, hall, by show p ≤ p + 1 + 1; omega, by show p + 1 + 1 ≤ _; omega⟩))
      refine EvX.neg a1 ?_
      have r0 := hrows 0 (by omega)
      by_cases a2 : w = 2
      · refine EvX.pos a2 (EvX.pos (by omega) (EvX.pos (by rw [show (0 : Int) = ((0 : Nat) : Int) from rfl, r0]; omega) (EvX.now ⟨by show cs.length ≤ 4; omega, by simp; omega, ?_, by show p ≤ p + 1 + 1; omega, by show p + 1 + 1 ≤ _; omega⟩)))
        exact rows_set ds 0 _ (by rw [List.length_set]; exact hall 0) hall
      · have hw1 : Aside0 (wrap64 ((i : Int) - 1) = ((i - 1 : Nat) : Int)) := ⟨by rw [w64 (by omega) (by omega)]; omega⟩
        rw [hw1.out]
        have rl := hrows (i - 1) (by omega)
        refine EvX.neg a2 (EvX.pos (by omega) (EvX.pos (by omega) (EvX.pos (by rw [rl]; omega) (EvX.now ⟨by show cs.length ≤ 4; omega, by simp; omega, ?_, by show p ≤ p + 1 + 1; omega, by show p + 1 + 1 ≤ _; omega⟩))))
        rw [Int.toNat_natCast]
        exact rows_set ds (i - 1) _ (by rw [List.length_drop, rl]; omega) hall
    · exact EvX.neg hvt (EvX.now ⟨by show cs.length ≤ 4; omega, by show ds.length ≤ 4; omega, hall, by show p ≤ p + 1; omega, by show p + 1 ≤ _; omega⟩)
  | succ e ih =>
    intro i cs ds p he hi hcs hds hrows h0 h1
    have hlt : i < m := by omega
    refine EvX.step (fun k => by rw [spec_l20Book.l0]) ?_
    refine EvX.pos (by omega) ?_
    obtain ⟨v, _, _, _, hv⟩ := pick hb p 4 h0 (by omega)
    refine EvX.bind hv ?_
    obtain ⟨w, _, _, _, hw⟩ := pick hb (p + 1) 21 (by omega) (by omega)
    refine EvX.bind hw (EvX.bind0 rfl (EvX.pos hk0 (EvX.pos (by simp; omega) (EvX.pos (by omega) ?_))))
    refine bk_l1 hb n m hm kind i hlt _ ds hds _ (p + 1 + 1) (by omega) (by omega) ?_ _ 0 [] (p + 1 + 1) rfl (by omega) rfl (by omega) (by omega)
    intro row q hr hq0 hq1
    refine (ih (i + 1) _ (ds ++ [row]) q (by omega) (by omega) (by simp; omega) (by simp; omega) ?_ (by omega) (by omega)).imp ?_
    · intro j hj
      rw [rL2, List.getD_eq_getElem?_getD, List.getElem?_append]
      by_cases hjl : j < ds.length
      · rw [if_pos hjl]
        have := hrows j hjl
        rw [rL2, List.getD_eq_getElem?_getD] at this
        exact this
      · rw [if_neg hjl]
        have : j = ds.length := by simp at hj; omega
        subst this
        simpa using hr
    · intro r hr
      exact ⟨hr.1, hr.2.1, hr.2.2.1, by have := hr.2.2.2.1; omega, by have := hr.2.2.2.2; omega⟩
theorem book {b : List Int} (hb : Bytes b) (n : Int) (hn : 1 ≤ n) (hn2 : n ≤ 1000) (p : Int) (h0 : 0 ≤ p) (h1 : p ≤ 50) : EvX (fun k => spec_l20Book.f k b p n) (fun r => Sm r p 50) := by
  unfold spec_l20Book.f
  obtain ⟨v, hv0, hv1, _, hv⟩ := pick hb p 6 h0 (by omega)
  obtain ⟨w, hw0, hw1, _, hw⟩ := pick hb (p + 1) 3 (by omega) (by omega)
  have hv6 := hv1 (by omega)
  have hw3 := hw1 (by omega)
  refine EvX.bind0 rfl (EvX.bind hv (EvX.pos hv0 (EvX.pos (by simp; omega) (EvX.bind hw ?_))))
  obtain ⟨m, hm1, hm4, hm⟩ : ∃ m : Nat, 1 ≤ m ∧ m ≤ 4 ∧ rd ([1, 2, 3, 3, 4, 4] : List Int) v = (m : Int) := by
    rcases (by omega : v = 0 ∨ v = 1 ∨ v = 2 ∨ v = 3 ∨ v = 4 ∨ v = 5) with h | h | h | h | h | h <;> subst h
    · exact ⟨1, by omega, by omega, rfl⟩
    · exact ⟨2, by omega, by omega, rfl⟩
    · exact ⟨3, by omega, by omega, rfl⟩
    · exact ⟨3, by omega, by omega, rfl⟩
    · exact ⟨4, by omega, by omega, rfl⟩
    · exact ⟨4, by omega, by omega, rfl⟩
  rw [hm]
  refine (bk_l0 hb n hn hn2 m hm1 hm4 w hw0 hw3 m 0 [] [] (p + 1 + 1) (by omega) (by omega) rfl rfl (fun j hj => by simp at hj) (by omega) (by omega)).imp ?_
  intro r hr
  exact ⟨hr.1, hr.2.1, hr.2.2.1, by have := hr.2.2.2.1; omega, by have := hr.2.2.2.2; omega⟩
end Go.Proofs.Ytfooakkhkehpiaa.Db
namespace Go.Proofs.Ytfooakkhkehpiaa.Al
open Go.RowKit Go.Proofs.Ytfooakkhkehpiaa.PU Go.Proofs.Ytfooakkhkehpiaa.Qh Go.Proofs.YtfooakkhkehpiaaW.PrintWords Go.Proofs.YtfooakkhkehpiaaW.PrintMore
set_option linter.unusedVariables false
set_option linter.unusedSimpArgs false
theorem alive : Ev (fun k => laws_alive.f k) true := Ev.of (fun k => laws_alive.mono k) (k := 12) (by decide +kernel)
end Go.Proofs.Ytfooakkhkehpiaa.Al
namespace Go.Proofs.Ytfooakkhkehpiaa.Fwc
open Go.RowKit Go.Proofs.Ytfooakkhkehpiaa.PU Go.Proofs.Ytfooakkhkehpiaa.Qh Go.Proofs.Ytfooakkhkehpiaa.Dr Go.Proofs.Ytfooakkhkehpiaa.Db Go.Proofs.Ytfooakkhkehpiaa.Bk Go.Proofs.Ytfooakkhkehpiaa.Mx Go.Proofs.Ytfooakkhkehpiaa.Ow Go.Proofs.Ytfooakkhkehpiaa.Ne Go.Proofs.Ytfooakkhkehpiaa.Cr Go.Proofs.Ytfooakkhkehpiaa.Sk Go.Proofs.Ytfooakkhkehpiaa.Sn Go.Proofs.Ytfooakkhkehpiaa.Wi Go.Proofs.YtfooakkhkehpiaaW.PrintWords Go.Proofs.YtfooakkhkehpiaaW.PrintMore
set_option linter.unusedVariables false
set_option linter.unusedSimpArgs false
variable {c : List Int} {d : List (List Int)}
theorem iCirc (h : BookP c d) : Ev (fun k => impl_CirclesOf.f k c d) (circ c d) := by
  unfold impl_CirclesOf.f
  exact Ev.bind ((isBook c d).yes h) (evPos rfl (Ev.bind (Cq.iCircles h) (Ev.now _)))
theorem ibookOk (h : BookP c d) : Ev (fun k => impl_BookOk.f k c d) true := by
  unfold impl_BookOk.f
  exact Ev.bind ((isBook c d).yes h) (Ev.now _)
def ps (c : List Int) (d : List (List Int)) : Nat → Int
  | 0 => 0
  | j + 1 => ps c d j + mx (nt c d j) 0
theorem mx_bd (a : Int) : 0 ≤ mx a 0 ∧ (0 ≤ a → mx a 0 = a) ∧ (a < 0 → mx a 0 = 0) := by
  unfold mx
  by_cases h : a < 0
  · rw [if_pos h]; omega
  · rw [if_neg h]; omega
theorem s1_add (f g : Nat → Int) : ∀ m : Nat, s1 (fun i => f i + g i) m = s1 f m + s1 g m
  | 0 => rfl
  | m + 1 => by simp only [s1]; rw [s1_add f g m]; omega
theorem s1_zero : ∀ m : Nat, s1 (fun _ => 0) m = 0
  | 0 => rfl
  | m + 1 => by simp only [s1]; rw [s1_zero m]; omega
theorem s1_swap (f : Nat → Nat → Int) (n : Nat) : ∀ m : Nat, s1 (fun i => s1 (f i) n) m = s1 (fun j => s1 (fun i => f i j) m) n
  | 0 => by simp only [s1]; rw [s1_zero]
  | m + 1 => by
    simp only [s1]
    rw [s1_swap f n m, s1_add (fun j => s1 (fun i => f i j) m) (f m) n]
theorem ow0 (h : BookP c d) {j : Nat} (hj : j < c.length) : 0 ≤ ow c d j := (ow_bd h hj).1
theorem ps_le (h : BookP c d) : ∀ m : Nat, m ≤ c.length → 0 ≤ ps c d m ∧ ps c d m ≤ s1 (fun j => cs d c.length j) m ∧ ps c d m ≤ 36 * m
  | 0, _ => by simp [ps, s1]
  | m + 1, hm => by
    obtain ⟨a1, a2, a3⟩ := ps_le h m (by omega)
    have b1 := cs_bd h (show m < c.length by omega) c.length (Nat.le_refl _)
    have b2 := ow0 h (show m < c.length by omega)
    have b3 := mx_bd (nt c d m)
    have h4 := h.2.1
    have b4 : nt c d m = cs d c.length m - ow c d m := rfl
    simp only [ps, s1]
    refine ⟨by omega, ?_, ?_⟩
    · by_cases z : 0 ≤ nt c d m
      · have := b3.2.1 z; omega
      · have := b3.2.2 (by omega); omega
    · by_cases z : 0 ≤ nt c d m
      · have := b3.2.1 z; omega
      · have := b3.2.2 (by omega); omega
theorem ps_tot (h : BookP c d) : ps c d c.length ≤ tot c d := by
  have h1 := (ps_le h c.length (Nat.le_refl _)).2.1
  have h2 : s1 (fun j => cs d c.length j) c.length = tot c d := by
    unfold tot
    rw [s1_swap]
    exact s1_congr _ (fun j _ => cs_s1 d j c.length)
  omega
theorem ps_congr {d' : List (List Int)} (h : ∀ j, j < c.length → nt c d' j = nt c d j) : ∀ m : Nat, m ≤ c.length → ps c d' m = ps c d m
  | 0, _ => rfl
  | m + 1, hm => by simp only [ps]; rw [ps_congr h m (by omega), h m (by omega)]
theorem no2 : Ev (fun k => laws_FnWithoutCircles.j0 k (-1) ((-1 : Int) != (-1)) c d [] []) true := by
  have hs : Ev (fun k => laws_sameBook.f k ([] : List Int) ([] : List (List Int)) [] []) true := sameB [] [] (by simp) (by simp) (fun i hi => by simp at hi)
  have hno : Ev (fun k => laws_noBook.f k ([] : List Int) ([] : List (List Int))) true := by
    unfold laws_noBook.f
    exact Ev.bind hs (Ev.now _)
  refine Ev.step (fun k => by rw [laws_FnWithoutCircles.j0]) ?_
  exact evNeg (by decide) (evPos (by decide) (evPos rfl (Ev.bind hno (evPos rfl (Ev.bind Al.alive (Ev.now _))))))
theorem fin (h : BookP c d) (i : Nat) (hi : i = c.length) : Ev (fun k => laws_FnWithoutCircles.l1 k (without c d).2 (rowF c.length (nt c d)) (ps c d c.length) (i : Int) c d c (without c d).1) true := by
  subst hi
  have h4 := h.2.1
  have hx := without_ok h
  have hn := nets hx
  rw [w_nets h] at hn
  have hp := ps_tot hx
  rw [show ps c (without c d).1 c.length = ps c d c.length from ps_congr (fun j hj => woc_nt hj 144 d 0 h) _ (Nat.le_refl _), ← all_tot] at hp
  obtain ⟨t, ht, hev⟩ := Eq.eqB hx c d
  have hz := w_none h
  refine Ev.step (fun k => by rw [laws_FnWithoutCircles.l1]) ?_
  refine evNeg (by omega) (Ev.bind (iCirc hx) (evPos (by omega) (Ev.bind hn (Ev.bind (sameI _ (by rw [rowF_len]; omega)) (evPos rfl ?_)))))
  refine Ev.bind (allDebts hx) (evPos hp (Ev.bind hev (evEq (Ev.now _) ?_)))
  have hc := (w_cnt h).2
  by_cases z : (without c d).2 = 0
  · have : t = true := ht.2 ⟨rfl, hc.1 z⟩
    rw [this, z]; rfl
  · have : t = false := by
      cases t with
      | false => rfl
      | true => exact absurd (hc.2 (ht.1 rfl).2) z
    rw [this, beq_eq_false_iff_ne.mpr z]; rfl
theorem lw_l2 (h : BookP c d) {i : Nat} (hi : i < c.length) (hR : Ev (fun k => laws_FnWithoutCircles.l1 k (without c d).2 (rowF c.length (nt c d)) (ps c d c.length) ((i + 1 : Nat) : Int) c d c (without c d).1) true) : ∀ (e j : Nat), c.length - j = e → j ≤ c.length → Ev (fun k => laws_FnWithoutCircles.l2 k (without c d).2 (rowF c.length (nt c d)) (ps c d c.length) (i : Int) (j : Int) c d c (without c d).1) true := by
  have h4 := h.2.1
  have hx := without_ok h
  have r1 := (h.2.2.2 i hi).2.2.1
  have r2 := (hx.2.2.2 i hi).2.2.1
  have l1 := h.2.2.1
  have l2 := hx.2.2.1
  have hs : Aside0 (wrap64 ((i : Int) + 1) = ((i + 1 : Nat) : Int)) := ⟨wsucc hi (by omega)⟩
  intro e
  induction e with
  | zero =>
    intro j he hj
    refine Ev.step (fun k => by rw [laws_FnWithoutCircles.l2]) ?_
    rw [hs.out]
    exact evNeg (by omega) hR
  | succ e ih =>
    intro j he hj
    have hlt : j < c.length := by omega
    have hj1 : Aside0 (wrap64 ((j : Int) + 1) = ((j + 1 : Nat) : Int)) := ⟨wsucc hlt (by omega)⟩
    have hle : rd (rd_L1 (without c d).1 (i : Int)) (j : Int) ≤ rd (rd_L1 d (i : Int)) (j : Int) := w_le h i hi j hlt
    refine Ev.step (fun k => by rw [laws_FnWithoutCircles.l2]) ?_
    rw [hj1.out]
    exact evPos (by omega) (evPos (by omega) (evPos (by omega) (evPos (by omega) (evPos (by omega) (evPos (by omega) (evPos (by omega) (evNeg (by omega) (ih (j + 1) (by omega) (by omega)))))))))
theorem lw_l1 (h : BookP c d) : ∀ (e i : Nat), c.length - i = e → i ≤ c.length → Ev (fun k => laws_FnWithoutCircles.l1 k (without c d).2 (rowF c.length (nt c d)) (ps c d c.length) (i : Int) c d c (without c d).1) true := by
  intro e
  induction e with
  | zero =>
    intro i he hi
    exact fin h i (by omega)
  | succ e ih =>
    intro i he hi
    refine Ev.step (fun k => by rw [laws_FnWithoutCircles.l1]) ?_
    exact evPos (by omega) (lw_l2 h (by omega) (ih (i + 1) (by omega) (by omega)) c.length 0 rfl (by omega))
theorem lw_l0 (h : BookP c d) : ∀ (e j : Nat), c.length - j = e → j ≤ c.length → Ev (fun k => laws_FnWithoutCircles.l0 k (without c d).2 (rowF c.length (nt c d)) (ps c d j) (j : Int) c d c (without c d).1) true := by
  have h4 := h.2.1
  have hx := without_ok h
  have hl := rowF_len c.length (nt c d)
  intro e
  induction e with
  | zero =>
    intro j he hj
    obtain rfl : j = c.length := by omega
    refine Ev.step (fun k => by rw [laws_FnWithoutCircles.l0]) ?_
    refine evNeg (by omega) (Ev.bind (ibookOk hx) (evPos rfl (Ev.step (fun k => by rw [laws_FnWithoutCircles.j2]) ?_)))
    exact evNeg (by simp) (lw_l1 h _ 0 rfl (by omega))
  | succ e ih =>
    intro j he hj
    have hlt : j < c.length := by omega
    have hj1 : Aside0 (wrap64 ((j : Int) + 1) = ((j + 1 : Nat) : Int)) := ⟨wsucc hlt (by omega)⟩
    obtain ⟨a1, _, a3⟩ := ps_le h j (by omega)
    obtain ⟨b1, _, b3⟩ := ps_le h (j + 1) (by omega)
    have hw : Aside0 (wrap64 (ps c d j + mx (rd (rowF c.length (nt c d)) (j : Int)) 0) = ps c d (j + 1)) := ⟨by
      rw [rd_rowF hlt]
      have : ps c d j + mx (nt c d j) 0 = ps c d (j + 1) := rfl
      rw [this, w64 (by omega) (by omega)]⟩
    refine Ev.step (fun k => by rw [laws_FnWithoutCircles.l0]) ?_
    rw [hj1.out, hw.out]
    exact evPos (by omega) (evPos (by omega) (ih (j + 1) (by omega) (by omega)))
theorem holds : laws_FnWithoutCircles.Pure := by
  intro l0 _ _ hu
  refine Ev.rounds (g := fun k => laws_FnWithoutCircles.f k l0) ?_
  unfold laws_FnWithoutCircles.f
  by_cases a : (l0.length : Int) > 1048576
  · exact evPos a (Ev.now _)
  refine evNeg a ?_
  obtain ⟨b, hb, ho⟩ := Dr.open_ l0 hu
  obtain ⟨⟨c, d, p⟩, hr, hbk⟩ := book hb 9 (by omega) (by omega) 0 (by omega) (by omega)
  have hd : Ev (fun k => spec_DrawWithoutCircles.f k l0) (c, d) := by
    unfold spec_DrawWithoutCircles.f
    exact evBind0 ho (Ev.bind hbk (Ev.now _))
  refine Ev.bind hd (Ev.bind (iWithout c d) (Ev.bind (sWithout c d) ?_))
  by_cases h : BookP c d
  · simp only [if_pos h]
    refine Ev.bind (sameOk (without_ok h)) (evPos rfl (Ev.step (fun k => by rw [laws_FnWithoutCircles.j0]) ?_))
    have hc := (w_cnt h).1
    exact evNeg (by simp) (evNeg (by omega) (Ev.bind (nets h) (lw_l0 h _ 0 rfl (by omega))))
  · simp only [if_neg h]
    have hs : Ev (fun k => laws_sameBook.f k ([] : List Int) ([] : List (List Int)) [] []) true := sameB [] [] (by simp) (by simp) (fun i hi => by simp at hi)
    exact Ev.bind hs (evPos rfl no2)
end Go.Proofs.Ytfooakkhkehpiaa.Fwc
namespace Go.Proofs.Ytfooakkhkehpiaa.Pure
open Go.RowKit Go.Proofs.Ytfooakkhkehpiaa.PU
theorem FnWithoutCircles : laws_FnWithoutCircles.Pure := Go.Proofs.Ytfooakkhkehpiaa.Fwc.holds
end Go.Proofs.Ytfooakkhkehpiaa.Pure
namespace Go.Proofs.YtfooakkhkehpiaaW.PrintWords
open Go.ChangeShapes Go.WideShapes
theorem sized_ints {H : Type} {enc : TypeId × Value → H} {P : Program} {W : World} {base : Nat} {spare : Nat → Bool} {held : Bool} {t e : TypeId} {k : IntKind} {a : Option Addr} {len cap : Nat} {d : DataW H} {ps : List MemPlace} {ts : List TypeId} {ds : List (DataW H)} {j : Nat}
    (hsz : (DataW.weightsEach P ts ds).all (· ≤ reachBytes) = true) (ht : ts[j]? = some t) (hd : ds[j]? = some d) (hu : P.underlying t = some (.slice e)) (he : P.underlying e = some (.int k)) (hc : P.cellsOf e = 1) {B : Nat} (hB : P.bytesOf e = B)
    (h : DataW.Trod enc P W base spare held t (.slice a len cap) d ps) : len * B ≤ 140737488351232 := by
  obtain ⟨fuel, hf⟩ := h
  rcases open_ints hu he hc hf with ⟨hcs, _⟩ | ⟨x, l, c, zs, hcs, _, hl, _, hz, hx, _, _⟩
  · simp [Value.cells] at hcs
    obtain ⟨rfl, rfl, rfl⟩ := hcs
    simp
  · simp [Value.cells] at hcs
    obtain ⟨rfl, rfl, rfl⟩ := hcs
    obtain ⟨hx, _⟩ := Prod.mk.inj hx
    subst hx
    have z := sized_slice hsz ht hd hu
    rw [hB] at z
    have hl2 : len ≤ zs.length := by
      rw [hz]
      split
      · exact hl
      · exact Nat.le_refl _
    have h1 : (lits (H := H) k (zs.take len)).length + (lits (H := H) k (zs.drop len)).length = zs.length := by
      simp [lits]
      omega
    rw [h1] at z
    exact Nat.le_trans (Nat.mul_le_mul_right _ hl2) z
end Go.Proofs.YtfooakkhkehpiaaW.PrintWords
namespace Go.Proofs.Ytfooakkhkehpiaa.fnWithoutCircles
open Go.ChangeShapes Go.WideShapes Go.ChangeAt Go.RowKit
open Go.ChangeMaps (open_string shut_string)
set_option linter.unusedVariables false
theorem own : ownKnob Try.prog.godebug = none := by kernel_rfl
theorem laidOut : laidOutB Try.prog = true := by kernel_rfl
def IsRow (k : IntKind) (w : World) (a : Option Addr) (len cap : Nat) (zs : List Int) : Prop :=
  (a = none ∧ len = 0 ∧ cap = 0 ∧ zs = []) ∨
  ∃ x, a = some x ∧ len ≤ cap ∧ cap ≤ maxLen ∧ zs.length = cap ∧ (∀ i, i < zs.length → w.cell? (x.add i) = some (.int k (zs.getD i 0))) ∧ ∀ n ∈ zs, (Lit.int k n).wf = true
set_option maxRecDepth 100000 in
theorem lifted (os : Os) (started : os.Started) (H : Type) (enc : TypeId × Value → H) :
    ReturnsInHanded {} Try.checked os 10 .any (Rows.fnWithoutCirclesSpec.pre6 enc Try.prog Try.f10 Rows.fnWithoutCirclesRow.domain false) (Rows.fnWithoutCirclesSpec.post enc Try.prog Try.f10 false true false false) := by
  refine returnsInHanded_of_change_sized (C := Try.checked) own started (by kernel_rfl) Try.func10
    (ChangeSpec.witness6 (enc := enc) (C := Try.checked) false ⟨#[], #[.slice none 0 0], []⟩ 8 (by kernel_rfl) (by kernel_rfl) (by kernel_rfl) (by kernel_rfl)) ?_
  intro W base args ds gs before hval0 hW hcnd hsz0 _
  have hsz : (DataW.weightsEach Try.prog (Try.f10.params.toList ++ Rows.fnWithoutCirclesSpec.plain.varTypes Try.prog) (ds ++ gs)).all (· ≤ reachBytes) = true := hsz0
  have hval : ∀ (j : Nat) t v, Try.f10.params[j]? = some t → args[j]? = some v → Value.okWide Try.prog W .any base t v := hval0
  have hW' := hW
  obtain ⟨p, q, hA0, hV, rfl, hfz, hnd⟩ := hW
  have hA : DataW.TrodAll enc Try.prog W 0 (fun _ => true) true Try.f10.params.toList args.toList ds p := hA0
  rw [Try.params10] at hA hval hsz
  obtain ⟨v0, vs0, d0, ds0, p0, q0, hargs, rfl, rfl, h0, r0⟩ := trodAll_cons hA
  obtain ⟨rfl, rfl, rfl⟩ := trodAll_nil r0
  obtain rfl : args = #[v0] := by cases args; simp_all
  obtain ⟨rfl, rfl⟩ := trodVars_none hV
  obtain ⟨a0, len0, cap0, rfl⟩ := okWide_slice Try.underlying33 (hval 0 33 v0 rfl rfl)
  have k0 := h0
  have lt0 : ∀ x ∈ p0, x.block < W.heap.size := by obtain ⟨m, hm⟩ := k0; exact DataW.trod_lt m _ _ _ hm
  obtain ⟨z0, w0⟩ : ∃ zs, IsRow .u8 W a0 len0 cap0 zs := by
    obtain ⟨fuel, hf⟩ := h0
    rcases open_ints Try.underlying33 Try.underlying5 (by kernel_rfl) hf with ⟨hcs, _⟩ | ⟨x, l, c, zs, hcs, _, hl, hm, hz, _, hcell, hwz⟩
    · simp [Value.cells] at hcs
      obtain ⟨rfl, rfl, rfl⟩ := hcs
      exact ⟨[], .inl ⟨rfl, rfl, rfl, rfl⟩⟩
    · simp [Value.cells] at hcs
      obtain ⟨rfl, rfl, rfl⟩ := hcs
      exact ⟨zs, .inr ⟨_, rfl, hl, hm, by simpa using hz, hcell, hwz⟩⟩
  have y0 : len0 * 1 ≤ 140737488351232 := Go.Proofs.YtfooakkhkehpiaaW.PrintWords.sized_ints hsz (j := 0) (t := 33) rfl rfl Try.underlying33 Try.underlying5 (by kernel_rfl) (by kernel_rfl) h0
  clear hA0 hval0 hsz0 hsz
  refine (PU.laws_FnWithoutCircles.walk Pure.FnWithoutCircles a0 len0 cap0 z0 W w0 y0).mono fun e W' ⟨he, bel⟩ => ?_
  subst he
  exact ⟨_, rfl, _, _, _, [], _, [], hW', trodAll_mk1 (shut_bool Try.underlying4 _), (trodAll_cons_mk (Below.trod laidOut (by kernel_rfl) (of_decide_eq_true (by kernel_rfl)) k0 bel lt0) trodAll_mk0), rfl, bel.frame _, fun h => by cases h⟩
theorem over : Rows.fnWithoutCirclesRow.holds Try.pinned (OpenSpec.ofChange Rows.fnWithoutCirclesSpec) :=
  OpenClaim.holds_of_wide 10 Try.f10 rfl rfl rfl rfl rfl rfl rfl ⟨rfl, rfl, rfl, rfl, rfl⟩ rfl rfl rfl rfl rfl (by kernel_rfl) Try.func10 (by kernel_rfl)
    (of_decide_eq_true (by kernel_rfl)) (by unfold Func.isWrapper; first | (rw [if_pos (by decide +kernel)]; kernel_rfl) | (rw [if_neg (by decide +kernel)]; exact ⟨rfl, rfl⟩))
    (fun os started H enc _ => lifted os started H enc)
theorem proved : Rows.FnWithoutCirclesSaid := over
end Go.Proofs.Ytfooakkhkehpiaa.fnWithoutCircles
namespace Go.Proofs.Ytfooakkhkehpiaa
theorem fnWithoutCircles_holds : Rows.FnWithoutCirclesSaid := fnWithoutCircles.proved
end Go.Proofs.Ytfooakkhkehpiaa
