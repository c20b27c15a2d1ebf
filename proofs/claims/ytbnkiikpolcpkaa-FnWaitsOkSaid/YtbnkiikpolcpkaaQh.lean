/- Small plain laws for the printed functions: rounds, branches, wrapped counters, lists by index. No program in sight. -/
import Derived.Test.YtbnkiikpolcpkaaWMore
namespace Go.Proofs.Ytbnkiikpolcpkaa.Qh
open Go.RowKit Go.Proofs.YtbnkiikpolcpkaaW.PrintWords Go.Proofs.YtbnkiikpolcpkaaW.PrintMore
set_option linter.unusedVariables false
set_option linter.unusedSimpArgs false
theorem w64 {n : Int} (h1 : -9223372036854775808 ≤ n) (h2 : n ≤ 9223372036854775807) : wrap64 n = n := by unfold wrap64; omega
theorem wsucc {i n : Nat} (h : i < n) (hn : n ≤ 4611686018427387904) : wrap64 ((i : Int) + 1) = ((i + 1 : Nat) : Int) := by unfold wrap64; omega
section
variable {α β : Type} {r : α}
theorem evPos {c : Prop} [Decidable c] {g f : Nat → Option α} (h : c) (k : Ev g r) : Ev (fun n => if c then g n else f n) r := by
  simp only [if_pos h]; exact k
theorem evNeg {c : Prop} [Decidable c] {g f : Nat → Option α} (h : ¬ c) (k : Ev f r) : Ev (fun n => if c then g n else f n) r := by
  simp only [if_neg h]; exact k
theorem evT {g f : Nat → Option α} {b : Bool} (h : b = true) (k : Ev g r) : Ev (fun n => if b = true then g n else f n) r := evPos h k
theorem evF {g f : Nat → Option α} {b : Bool} (h : b = false) (k : Ev f r) : Ev (fun n => if b = true then g n else f n) r := evNeg (by rw [h]; decide) k
theorem evIte {c : Prop} [Decidable c] {g f : Nat → Option α} (hp : c → Ev g r) (hn : ¬ c → Ev f r) : Ev (fun n => if c then g n else f n) r := by
  by_cases h : c
  · exact evPos h (hp h)
  · exact evNeg h (hn h)
theorem evBind0 {g : Option β} {f : Nat → β → Option α} {a : β} (h : g = some a) (k : Ev (fun n => f n a) r) : Ev (fun n => g.bind (f n)) r := by
  subst h; exact k
theorem evNow {g : Option α} (h : g = some r) : Ev (fun _ => g) r := by subst h; exact Ev.now r
theorem evEq {g : Nat → Option α} {q : α} (h : Ev g q) (e : q = r) : Ev g r := e ▸ h
/-- The round that follows, where the function is told by its own equation. -/
theorem evStep {g : Nat → Option α} (f : Nat → Option α) (h : ∀ k, g (k + 1) = f k) (k : Ev f r) : Ev g r := Ev.step h k
end
theorem ofNatLt {i n : Nat} : ((i : Int) < (n : Int)) ↔ i < n := by omega
theorem rd_get (xs : List Int) (i : Nat) (h : i < xs.length) : rd xs (i : Int) = xs[i] := by
  simp [rd, List.getD_eq_getElem?_getD, List.getElem?_eq_getElem h]
theorem drop_rd (xs : List Int) (i : Nat) (h : i < xs.length) : xs.drop i = rd xs (i : Int) :: xs.drop (i + 1) := by
  rw [rd_get xs i h, List.drop_eq_getElem_cons h]
theorem drop_of {α : Type} (xs : List α) (d : α) (i : Nat) (h : i < xs.length) : xs.drop i = xs.getD i d :: xs.drop (i + 1) := by
  rw [List.drop_eq_getElem_cons h]; simp [List.getD_eq_getElem?_getD, List.getElem?_eq_getElem h]
theorem getD_set {α : Type} (xs : List α) (d v : α) (i j : Nat) (h : i < xs.length) : (xs.set i v).getD j d = if i = j then v else xs.getD j d := by
  simp only [List.getD_eq_getElem?_getD, List.getElem?_set]
  by_cases e : i = j
  · subst e; simp [h]
  · simp [e]
theorem rd_set (xs : List Int) (v : Int) (i j : Int) (h0 : 0 ≤ i) (h : i < xs.length) (hj : 0 ≤ j) : rd (xs.set i.toNat v) j = if i = j then v else rd xs j := by
  unfold rd
  rw [getD_set xs 0 v i.toNat j.toNat (by omega)]
  by_cases e : i = j
  · subst e; simp
  · rw [if_neg e, if_neg (by omega)]
theorem rd_app (xs : List Int) (v : Int) (j : Nat) : rd (xs ++ [v]) (j : Int) = if j < xs.length then rd xs j else if j = xs.length then v else 0 := by
  unfold rd
  simp only [Int.toNat_natCast, List.getD_eq_getElem?_getD, List.getElem?_append]
  by_cases h : j < xs.length
  · simp [h]
  · by_cases e : j = xs.length
    · subst e; simp
    · rw [if_neg h, if_neg h, if_neg e]
      have : 1 ≤ j - xs.length := by omega
      rw [List.getElem?_eq_none (by simp; omega)]; rfl
theorem ext_rd (xs ys : List Int) (hl : xs.length = ys.length) (h : ∀ i : Nat, i < xs.length → rd xs (i : Int) = rd ys (i : Int)) : xs = ys := by
  apply List.ext_getElem hl
  intro i h1 h2
  have := h i h1
  rwa [rd_get xs i h1, rd_get ys i h2] at this
theorem ext_getD {α : Type} (d : α) (xs ys : List α) (hl : xs.length = ys.length) (h : ∀ i : Nat, i < xs.length → xs.getD i d = ys.getD i d) : xs = ys := by
  apply List.ext_getElem hl
  intro i h1 h2
  have := h i h1
  simpa [List.getD_eq_getElem?_getD, List.getElem?_eq_getElem h1, List.getElem?_eq_getElem h2] using this
theorem getD_map {α β : Type} (f : α → β) (d : α) (e : β) (xs : List α) (i : Nat) (h : i < xs.length) : (xs.map f).getD i e = f (xs.getD i d) := by
  simp [List.getD_eq_getElem?_getD, List.getElem?_eq_getElem h]
theorem getD_mem {α : Type} (d : α) (xs : List α) (i : Nat) (h : i < xs.length) : xs.getD i d ∈ xs := by
  simp [List.getD_eq_getElem?_getD, List.getElem?_eq_getElem h]
end Go.Proofs.Ytbnkiikpolcpkaa.Qh
