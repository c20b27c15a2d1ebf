-- PRINTED by print.py (a twelfth state) out of the translation. Not trusted: Lean checks it.
import Derived.Test.YtbnkiikpolcpkaaPUx0
namespace Go.Proofs.Ytbnkiikpolcpkaa.PU
open Go.RowKit Go.Proofs.YtbnkiikpolcpkaaW.PrintWords Go.Proofs.YtbnkiikpolcpkaaW.PrintLast Go.Proofs.YtbnkiikpolcpkaaW.PrintMore
attribute [local go_sem] max2_int min2_int max_two min_two max_three min_three max_four min_four   -- for this text's walks alone
set_option linter.unusedVariables false
set_option linter.unusedSimpArgs false

/-! ### IndexFunc_isLot1: function 86 -/
def IndexFunc_isLot1.idx (p : Int → Bool) : List Int → Nat → Int
  | [], _ => -1
  | x :: r, i => if p x = true then (i : Int) else IndexFunc_isLot1.idx p r (i + 1)
def IndexFunc_isLot1.f (l0 : List Int) : Option (Int) := some (IndexFunc_isLot1.idx (fun x => (x != 0 && x != 1)) l0 0)
theorem IndexFunc_isLot1.lit (x : Int) (w : World) : Calls Try.prog 64 #[.int .i64 x] w fun e w' => e = .returned (.bool ((x != 0 && x != 1))) ∧ w' = w := by
  by_cases h0 : x = 0
  · subst h0
    go_enter Try.func64, Try.ntmps64
    go_wp2
    go_ret
    exact ⟨rfl, rfl⟩
  · have h1 : (x != 0) = true := bne_iff_ne.mpr h0
    go_enter Try.func64, Try.ntmps64
    go_wp2
    go_ret
    exact ⟨by first | rfl | simp [h1], rfl⟩
set_option maxHeartbeats 1000000 in
set_option maxRecDepth 100000 in
theorem IndexFunc_isLot1.calls (A0 : Option Addr) (c0 : Nat) (l0 : List Int) (r : Int) (w : World) (hr0 : Kd.C (Kd.int .i64) w A0 l0.length l0) (hc0 : l0.length ≤ c0) (h : IndexFunc_isLot1.f l0 = some r) :
    Calls Try.prog 65 #[.slice A0 l0.length c0, .func (.func 64) #[] #[]] w fun e w' => e = .returned (.int .i64 r) ∧ Drawn0 w w' := by
  have hn : l0.length ≤ 9223372036854775807 := hr0.2.1
  have HR0 := Aside0.mk hr0
  clear hr0
  have H := Aside0.mk (Option.some.inj h)
  clear h
  generalize hN : l0.length = n at *
  have HN := Aside0.mk hN
  clear hN
  go_enter Try.func65, Try.ntmps65
  go_wp2_with fail
  go_loop [5, 8] (fun _ i => ∃ j : Nat, j ≤ n ∧ i = .int .i64 j ∧ Aside0 (IndexFunc_isLot1.idx (fun x => (x != 0 && x != 1)) (l0.drop j) j = r)) (fun _ i => n - (Go.RowKit.intOf i).toNat)
  case atStart => exact ⟨0, Nat.zero_le _, rfl, ⟨H.out⟩⟩
  case round =>
    obtain ⟨j, hj, rfl, HA⟩ := hrel
    by_cases hlt : j < n
    · have hlt2 : j < l0.length := by rw [HN.out]; exact hlt
      have hd : l0.drop j = rd l0 (j : Int) :: l0.drop (j + 1) := by
        rw [List.drop_eq_getElem_cons hlt2]; simp [rd, List.getD_eq_getElem?_getD, List.getElem?_eq_getElem hlt2]
      have HX : Aside0 ((if (fun x : Int => (x != 0 && x != 1)) (rd l0 (j : Int)) = true then (j : Int) else IndexFunc_isLot1.idx (fun x => (x != 0 && x != 1)) (l0.drop (j + 1)) (j + 1)) = r) := ⟨by have := HA.out; rw [hd] at this; exact this⟩
      obtain ⟨ad, e, hx⟩ := Kd.at_int HR0.out (j : Int) (by omega) (by omega)
      cases e
      have hx' : w.cell? (ad.add j) = some (.int .i64 (rd l0 (j : Int))) := by simpa using hx
      generalize rd l0 (j : Int) = y at hx hx' HX
      clear hd hlt2 HA hx
      by_cases hy : (fun x : Int => (x != 0 && x != 1)) y = true
      · have hr : Aside0 ((j : Int) = r) := ⟨by have := HX.out; rw [if_pos hy] at this; exact this⟩
        have hy2 : Aside0 (((fun x : Int => (x != 0 && x != 1)) y) = true) := ⟨hy⟩
        clear HX hy
        go_wp2_with (go_at_call 64; refine (IndexFunc_isLot1.lit y _).mono ?_; rintro e w' ⟨rfl, rfl⟩; rw [show ((y != 0 && y != 1)) = true from hy2.out])
        go_ret
        exact ⟨by rw [← hr.out]; rfl, by repeat (first | exact Drawn0.refl _ | apply Drawn0.step)⟩
      · have hr : Aside0 (IndexFunc_isLot1.idx (fun x => (x != 0 && x != 1)) (l0.drop (j + 1)) (j + 1) = r) := ⟨by have := HX.out; rw [if_neg hy] at this; exact this⟩
        have hy2 : Aside0 (((fun x : Int => (x != 0 && x != 1)) y) = false) := ⟨by simpa using hy⟩
        clear HX hy
        go_wp2_with (go_at_call 64; refine (IndexFunc_isLot1.lit y _).mono ?_; rintro e w' ⟨rfl, rfl⟩; rw [show ((y != 0 && y != 1)) = false from hy2.out])
        go_round
        case rel => exact ⟨j + 1, by omega, by go_num, hr⟩
        case measure => simp [Go.RowKit.intOf]; omega
    · obtain rfl : j = n := by omega
      have hr : Aside0 ((-1 : Int) = r) := ⟨by have := HA.out; rw [List.drop_of_length_le (by rw [HN.out]; exact Nat.le_refl _)] at this; exact this⟩
      clear HA
      go_wp2_with fail
      go_ret
      exact ⟨by rw [← hr.out]; rfl, by repeat (first | exact Drawn0.refl _ | apply Drawn0.step)⟩


end Go.Proofs.Ytbnkiikpolcpkaa.PU
