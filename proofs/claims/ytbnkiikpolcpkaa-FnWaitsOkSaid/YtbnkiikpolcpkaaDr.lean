/- The reader of draws: each pick ends, in its bounds, one place further. -/
import Derived.Test.YtbnkiikpolcpkaaQh
import Derived.Test.YtbnkiikpolcpkaaPUx16
import Derived.Test.YtbnkiikpolcpkaaPUx19
namespace Go.Proofs.Ytbnkiikpolcpkaa.Dr
open Go.RowKit Go.Proofs.Ytbnkiikpolcpkaa.PU Go.Proofs.Ytbnkiikpolcpkaa.Qh Go.Proofs.YtbnkiikpolcpkaaW.PrintWords Go.Proofs.YtbnkiikpolcpkaaW.PrintMore
set_option linter.unusedVariables false
set_option linter.unusedSimpArgs false
theorem xor_nonneg (a b : Int) (ha : 0 ≤ a) (ha2 : a < 4611686018427387904) (hb : 0 ≤ b) (hb2 : b < 4611686018427387904) : 0 ≤ Go.bits .xor .i64 a b := by
  obtain ⟨m, rfl⟩ := Int.eq_ofNat_of_zero_le ha
  obtain ⟨n, rfl⟩ := Int.eq_ofNat_of_zero_le hb
  have hm : m < 2 ^ 62 := by omega
  have hn : n < 2 ^ 62 := by omega
  have hx : m ^^^ n < 2 ^ 62 := Nat.xor_lt_two_pow hm hn
  have e1 : m % 2 ^ 64 = m := Nat.mod_eq_of_lt (by omega)
  have e2 : n % 2 ^ 64 = n := Nat.mod_eq_of_lt (by omega)
  have : Go.bits .xor .i64 (m : Int) (n : Int) = ((m ^^^ n : Nat) : Int) := by
    simp only [Go.bits, BitVec.ofInt_natCast, BitVec.toNat_xor, BitVec.toNat_ofNat]
    show IntKind.i64.wrap (((m % 2 ^ 64) ^^^ (n % 2 ^ 64) : Nat) : Int) = _
    rw [e1, e2, IntKind.wrap_i64]
    omega
  rw [this]
  omega
def Bytes (b : List Int) : Prop := b.length ≤ 2000 ∧ ∀ x ∈ b, 0 ≤ x ∧ x ≤ 255
theorem rd_byte {b : List Int} (h : Bytes b) (i : Int) : 0 ≤ rd b i ∧ rd b i ≤ 255 := by
  unfold rd
  by_cases hi : i.toNat < b.length
  · exact h.2 _ (getD_mem 0 b _ hi)
  · simp [List.getD_eq_getElem?_getD, List.getElem?_eq_none (by omega : b.length ≤ i.toNat)]
theorem pick {b : List Int} (hb : Bytes b) (p n : Int) (h0 : 0 ≤ p) (h1 : p ≤ 1000000000) :
    ∃ v, 0 ≤ v ∧ (1 ≤ n → v < n) ∧ (n < 1 → v = 0) ∧ Ev (fun k => spec_l20Rd_pick.f k b p n) (v, p + 1) := by
  have hp : wrap64 (p + 1) = p + 1 := w64 (by omega) (by omega)
  have hp1 : wrap64 (p + 1 - 1) = p := by rw [w64 (by omega) (by omega)]; omega
  unfold spec_l20Rd_pick.f
  rw [hp]
  by_cases hn : n < 1
  · refine ⟨0, by omega, by omega, fun _ => rfl, evPos hn ?_⟩
    refine Ev.step (fun k => by rw [spec_l20Rd_pick.j0]) ?_
    exact evPos rfl (Ev.now _)
  by_cases hz : b.length = 0
  · refine ⟨0, by omega, by omega, fun h => absurd h hn, evNeg hn ?_⟩
    refine Ev.step (fun k => by rw [spec_l20Rd_pick.j0]) ?_
    exact evPos (by simp [hz]) (Ev.now _)
  have hlen : 0 < (b.length : Int) := by omega
  by_cases hlt : p < (b.length : Int)
  · have hr := rd_byte hb p
    refine ⟨Int.tmod (rd b p) n, Int.tmod_nonneg _ hr.1, fun _ => Int.tmod_lt_of_pos _ (by omega), fun h => absurd h hn, evNeg hn ?_⟩
    refine Ev.step (fun k => by rw [spec_l20Rd_pick.j0]) ?_
    rw [hp1]
    refine evNeg (fun h => by have := beq_iff_eq.mp h; omega) (evPos hlt (evPos h0 (evNeg (by omega) ?_)))
    rw [w64 (by omega) (by omega)]
    exact Ev.now _
  · have hp7 : wrap64 (p * 7) = p * 7 := w64 (by omega) (by omega)
    have hp73 : wrap64 (p * 7 + 3) = p * 7 + 3 := w64 (by omega) (by omega)
    have hp29 : wrap64 (p * 29) = p * 29 := w64 (by omega) (by omega)
    have i1 := Int.tmod_nonneg (b.length : Int) h0
    have i2 := Int.tmod_lt_of_pos p hlen
    have j1 := Int.tmod_nonneg (b.length : Int) (show 0 ≤ p * 7 + 3 by omega)
    have j2 := Int.tmod_lt_of_pos (p * 7 + 3) hlen
    have d1 : 0 ≤ Int.tdiv p (b.length : Int) := Int.tdiv_nonneg h0 (by omega)
    have d2 : Int.tdiv p (b.length : Int) ≤ p := Int.tdiv_le_self _ h0
    have r1 := rd_byte hb (Int.tmod p (b.length : Int))
    have r2 := rd_byte hb (Int.tmod (p * 7 + 3) (b.length : Int))
    have key : ∃ x, 0 ≤ x ∧ x < 4611686018427387904 ∧ wrap64 ((wrap64 ((wrap64 ((wrap64 ((wrap64 (rd b (Int.tmod p (b.length : Int)))) * 131)) + (wrap64 ((wrap64 (rd b (Int.tmod (p * 7 + 3) (b.length : Int)))) * 1117)))) + (p * 29))) + (wrap64 ((wrap64 (Int.tdiv p (b.length : Int))) * 53))) = x := by
      generalize rd b (Int.tmod p (b.length : Int)) = u at *
      generalize rd b (Int.tmod (p * 7 + 3) (b.length : Int)) = v at *
      generalize Int.tdiv p (b.length : Int) = d at *
      have e1 : wrap64 u = u := w64 (by omega) (by omega)
      have e2 : wrap64 v = v := w64 (by omega) (by omega)
      have e3 : wrap64 d = d := w64 (by omega) (by omega)
      have e4 : wrap64 (u * 131) = u * 131 := w64 (by omega) (by omega)
      have e5 : wrap64 (v * 1117) = v * 1117 := w64 (by omega) (by omega)
      have e6 : wrap64 (d * 53) = d * 53 := w64 (by omega) (by omega)
      have e7 : wrap64 (u * 131 + v * 1117) = u * 131 + v * 1117 := w64 (by omega) (by omega)
      have e8 : wrap64 (u * 131 + v * 1117 + p * 29) = u * 131 + v * 1117 + p * 29 := w64 (by omega) (by omega)
      refine ⟨u * 131 + v * 1117 + p * 29 + d * 53, by omega, by omega, ?_⟩
      rw [e1, e2, e3, e4, e5, e6, e7, e8]
      exact w64 (by omega) (by omega)
    obtain ⟨x, hx0, hx1, hx⟩ := key
    have t0 : 0 ≤ Int.tdiv x 64 := Int.tdiv_nonneg hx0 (by omega)
    have t1 : Int.tdiv x 64 ≤ x := Int.tdiv_le_self _ hx0
    have ht : wrap64 (Int.tdiv x 64) = Int.tdiv x 64 := w64 (by omega) (by omega)
    have hq := xor_nonneg x (Int.tdiv x 64) hx0 hx1 t0 (by omega)
    refine ⟨Int.tmod (Go.bits .xor .i64 x (Int.tdiv x 64)) n, Int.tmod_nonneg _ hq, fun _ => Int.tmod_lt_of_pos _ (by omega), fun h => absurd h hn, evNeg hn ?_⟩
    refine Ev.step (fun k => by rw [spec_l20Rd_pick.j0]) ?_
    rw [hp1, hp7, hp73, hp29, hx, ht]
    refine evNeg (fun h => by have := beq_iff_eq.mp h; omega) (evNeg hlt (evNeg (by omega) (evPos i1 (evPos i2 (evPos j1 (evPos j2 (evNeg (by omega) (Ev.now _))))))))
theorem open_ (l : List Int) (hu : ∀ x ∈ l, (Lit.int .u8 x).wf = true) : ∃ b, Bytes b ∧ spec_l20Open.f l = some (b, 0) := by
  have hb : ∀ x ∈ l, 0 ≤ x ∧ x ≤ 255 := fun x hx => by
    have := hu x hx
    simp [Lit.wf, IntKind.min, IntKind.max, IntKind.bits, IntKind.signed] at this
    omega
  unfold spec_l20Open.f
  by_cases h : (l.length : Int) > 2000
  · exact ⟨l.take 2000, ⟨by rw [List.length_take]; omega, fun x hx => hb x (List.mem_of_mem_take hx)⟩, by rw [if_pos h, if_pos (by omega)]⟩
  · exact ⟨l, ⟨by omega, hb⟩, by rw [if_neg h]⟩
end Go.Proofs.Ytbnkiikpolcpkaa.Dr
