/- Drawn payments: the draw ends, with few banks and few payments. -/
import Derived.Test.YtbnkiikpolcpkaaDr
import Derived.Test.YtbnkiikpolcpkaaPUx18
namespace Go.Proofs.Ytbnkiikpolcpkaa.Dw
open Go.RowKit Go.Proofs.Ytbnkiikpolcpkaa.PU Go.Proofs.Ytbnkiikpolcpkaa.Qh Go.Proofs.Ytbnkiikpolcpkaa.Dr Go.Proofs.YtbnkiikpolcpkaaW.PrintWords Go.Proofs.YtbnkiikpolcpkaaW.PrintMore
set_option linter.unusedVariables false
set_option linter.unusedSimpArgs false
abbrev W := S47
theorem odd {b : List Int} (hb : Bytes b) (p n : Int) (h0 : 0 ≤ p) (h1 : p ≤ 1000000000) :
    ∃ v q, p ≤ q ∧ q ≤ p + 1 ∧ Ev (fun k => spec_l20Rd_odd.f k b p n) (v, q) := by
  unfold spec_l20Rd_odd.f
  by_cases h : n > 0
  · obtain ⟨v, _, _, _, he⟩ := pick hb p n h0 h1
    exact ⟨_, p + 1, by omega, by omega, evPos h (Ev.bind he (Ev.now _))⟩
  · exact ⟨false, p, by omega, by omega, evNeg h (Ev.now _)⟩
theorem l1 {b : List Int} (hb : Bytes b) (x1 : Int) (m : List Int) (n : Int) (hn : 2 ≤ n ∧ n ≤ 4) (hm : (m.length : Int) = n) : ∀ (c : Nat) (l : List W) (p : Int), l.length + c ≤ 7 → 0 ≤ p → p + 10 * c + 10 ≤ 1000000000 →
    ∃ m' l' q, m'.length ≤ 4 ∧ l'.length ≤ 8 ∧ p ≤ q ∧ q ≤ p + 10 * c + 10 ∧ Ev (fun k => spec_l20Waits.l1 k x1 m n l (c : Int) b p) (m', l', q) := by
  intro c
  induction c with
  | zero =>
    intro l p hl h0 h1
    obtain ⟨v, q, hq0, hq1, ho⟩ := odd hb p x1 h0 (by omega)
    cases v with
    | false =>
      refine ⟨m, l, q, by omega, by omega, hq0, by omega, ?_⟩
      refine Ev.step (fun k => by rw [spec_l20Waits.l1]) ?_
      exact evNeg (by omega) (Ev.bind ho (evF rfl (Ev.now _)))
    | true =>
      obtain ⟨u, _, _, _, hu⟩ := pick hb q 3 (by omega) (by omega)
      by_cases u0 : u = 0
      · refine ⟨[], l, q + 1, by simp, by omega, by omega, by omega, ?_⟩
        refine Ev.step (fun k => by rw [spec_l20Waits.l1]) ?_
        exact evNeg (by omega) (Ev.bind ho (evT rfl (Ev.bind hu (evPos u0 (Ev.now _)))))
      · by_cases u1 : u = 1
        · refine ⟨m, l ++ [(⟨0, 0, 0⟩ : W)], q + 1, by omega, by simp; omega, by omega, by omega, ?_⟩
          refine Ev.step (fun k => by rw [spec_l20Waits.l1]) ?_
          exact evNeg (by omega) (Ev.bind ho (evT rfl (Ev.bind hu (evNeg u0 (evPos u1 (evPos (by omega) (Ev.now _)))))))
        · refine ⟨m.set 0 (-1), l, q + 1, by simp; omega, by omega, by omega, by omega, ?_⟩
          refine Ev.step (fun k => by rw [spec_l20Waits.l1]) ?_
          exact evNeg (by omega) (Ev.bind ho (evT rfl (Ev.bind hu (evNeg u0 (evNeg u1 (evPos (by omega) (Ev.now _)))))))
  | succ c ih =>
    intro l p hl h0 h1
    obtain ⟨v1, _, _, _, h1'⟩ := pick hb p n h0 (by omega)
    obtain ⟨v2, _, _, _, h2'⟩ := pick hb (p + 1) (wrap64 (n - 1)) (by omega) (by omega)
    obtain ⟨v3, a3, b3, _, h3'⟩ := pick hb (p + 1 + 1) 3 (by omega) (by omega)
    have b3' := b3 (by omega)
    obtain ⟨v4, _, _, _, h4'⟩ := pick hb (p + 1 + 1 + 1) (rd [3, 10, 20] v3) (by omega) (by omega)
    obtain ⟨m', l', q, e1, e2, e3, e4, e5⟩ := ih (l ++ [(⟨v1, Int.tmod (wrap64 ((wrap64 (v1 + 1)) + v2)) n, wrap64 (1 + v4)⟩ : W)]) (p + 1 + 1 + 1 + 1) (by simp; omega) (by omega) (by omega)
    refine ⟨m', l', q, e1, e2, by omega, by omega, ?_⟩
    refine Ev.step (fun k => by rw [spec_l20Waits.l1]) ?_
    have hs : wrap64 (((c + 1 : Nat) : Int) - 1) = (c : Int) := by rw [w64 (by omega) (by omega)]; omega
    rw [hs]
    exact evPos (by omega) (Ev.bind h1' (Ev.bind h2' (evNeg (by omega) (evBind0 rfl (Ev.bind h3' (evPos a3 (evPos (by simpa using b3') (Ev.bind h4' (evPos (by omega) e5)))))))))
theorem l0 {b : List Int} (hb : Bytes b) (x1 n x8 : Int) (hn : 2 ≤ n ∧ n ≤ 4) : ∀ (d : Nat) (m : List Int) (p : Int), (m.length : Int) + d = n → 0 ≤ p → p + 10 * d + 100 ≤ 1000000000 →
    ∃ m' l' q, m'.length ≤ 4 ∧ l'.length ≤ 8 ∧ p ≤ q ∧ q ≤ p + 10 * d + 100 ∧ Ev (fun k => spec_l20Waits.l0 k x1 m n x8 (m.length : Int) b p) (m', l', q) := by
  intro d
  induction d with
  | zero =>
    intro m p hm h0 h1
    obtain ⟨v, a1, a2, _, hv⟩ := pick hb p 8 h0 (by omega)
    have a2' := a2 (by omega)
    obtain ⟨c, rfl⟩ := Int.eq_ofNat_of_zero_le a1
    obtain ⟨m', l', q, e1, e2, e3, e4, e5⟩ := l1 hb x1 m n hn (by omega) c [] (p + 1) (by simp; omega) (by omega) (by omega)
    refine ⟨m', l', q, e1, e2, by omega, by omega, ?_⟩
    refine Ev.step (fun k => by rw [spec_l20Waits.l0]) ?_
    exact evNeg (by omega) (Ev.bind hv e5)
  | succ d ih =>
    intro m p hm h0 h1
    obtain ⟨v, _, _, _, hv⟩ := pick hb p (wrap64 (5 + (wrap64 (x8 * 12)))) h0 (by omega)
    obtain ⟨m', l', q, e1, e2, e3, e4, e5⟩ := ih (m ++ [v]) (p + 1) (by simp; omega) (by omega) (by omega)
    refine ⟨m', l', q, e1, e2, by omega, by omega, ?_⟩
    refine Ev.step (fun k => by rw [spec_l20Waits.l0]) ?_
    have hs : wrap64 ((m.length : Int) + 1) = (((m ++ [v]).length : Nat) : Int) := by rw [w64 (by omega) (by omega)]; simp
    rw [hs]
    exact evPos (by omega) (Ev.bind hv (evPos (by omega) e5))
/-- Drawn payments. -/
theorem waits {b : List Int} (hb : Bytes b) (p x1 : Int) (h0 : 0 ≤ p) (h1 : p ≤ 1000000) :
    ∃ m l q, m.length ≤ 4 ∧ l.length ≤ 8 ∧ p ≤ q ∧ q ≤ p + 1000 ∧ Ev (fun k => spec_l20Waits.f k b p x1) (m, l, q) := by
  obtain ⟨v, a1, a2, _, hv⟩ := pick hb p 3 h0 (by omega)
  have a2' := a2 (by omega)
  obtain ⟨u, _, _, _, hu⟩ := pick hb (p + 1) 2 (by omega) (by omega)
  have hw : wrap64 (2 + v) = 2 + v := w64 (by omega) (by omega)
  obtain ⟨d, hd⟩ := Int.eq_ofNat_of_zero_le (show 0 ≤ 2 + v by omega)
  obtain ⟨m, l, q, e1, e2, e3, e4, e5⟩ := l0 hb x1 (2 + v) u (by omega) d [] (p + 1 + 1) (by simp; omega) (by omega) (by omega)
  refine ⟨m, l, q, e1, e2, by omega, by omega, ?_⟩
  unfold spec_l20Waits.f
  rw [← hw] at e5
  exact Ev.bind hv (Ev.bind hu e5)
end Go.Proofs.Ytbnkiikpolcpkaa.Dw
