/- What a law is handed, read as data, is read by the printed kinds: numbers, slices, structs, one in another. -/
import Derived.Test.YtbnkiikpolcpkaaWMore
import Derived.Deep.Slices
import Derived.ChangeArms
import Derived.DataReads
namespace Go.Proofs.Ytbnkiikpolcpkaa.Op
open Go.RowKit Go.Deep Go.Proofs.YtbnkiikpolcpkaaW.PrintWords
set_option linter.unusedVariables false
set_option linter.unusedSimpArgs false
variable {α β : Type} {P : Program} {t e : TypeId}
def Opens (P : Program) (t : TypeId) (d : Kd α) (G : α → Prop) : Prop :=
  P.cellsOf t = d.sz ∧ ∀ (H : Type) (enc : TypeId × Value → H) (W : World) (fuel : Nat) (cs : List Value) (x : DataW H × List MemPlace),
    DataW.trod enc P W 0 (fun _ => true) true fuel t cs = some x → ∃ a, d.K W a cs ∧ G a
theorem opens_int {k : IntKind} (ht : P.underlying t = some (.int k)) (hc : P.cellsOf t = 1) : Opens P t (Kd.int k) (fun _ => True) :=
  ⟨hc, fun H enc W fuel cs x h => by
    obtain ⟨n, rfl, _, _⟩ := DataW.trod_int ht h
    exact ⟨n, rfl, trivial⟩⟩
theorem opens_slice {d : Kd α} {G : α → Prop} (ht : P.underlying t = some (.slice e)) (hc : P.cellsOf t = 1) (ho : Opens P e d G) :
    Opens P t (Kd.slice e d) (fun xs => xs.length ≤ maxLen ∧ ∀ x ∈ xs, G x) := by
  refine ⟨hc, fun H enc W fuel cs x h => ?_⟩
  rcases open_slice ht h with ⟨rfl, _⟩ | ⟨a, len, cap, m, n, D, Pl, rfl, _, hl, hm, hmm, _, hx⟩
  · exact ⟨[], ⟨none, 0, rfl, Nat.le_refl _, Kd.C_nil d W⟩, by simp, fun x hx => by cases hx⟩
  · have hmc : m = cap := by simpa using hmm
    subst hmc
    have hall : ∀ i, i < len → ∃ y c, c.length = d.sz ∧ d.K W y c ∧ G y ∧ ∀ j u, c[j]? = some u → W.cell? (a.add (i * d.sz + j)) = some u := by
      intro i hi
      obtain ⟨cs', h1, h2⟩ := hx i (by omega)
      obtain ⟨y, hK, hG⟩ := ho.2 H enc W n cs' _ h2
      rw [ho.1] at h1
      obtain ⟨_, hlen, hcell⟩ := World.cells?_some h1
      refine ⟨y, cs', hlen, hK, hG, fun j u hu => ?_⟩
      have hj : j < d.sz := by have := (List.getElem?_eq_some_iff.1 hu).1; omega
      have := hcell j hj
      rw [Deep.add_add, hu] at this
      exact this
    refine ⟨List.ofFn (fun i : Fin len => Classical.choose (hall i.1 i.2)), ⟨some a, m, by rw [List.length_ofFn], by rw [List.length_ofFn]; exact hl, ?_⟩, by rw [List.length_ofFn]; omega, ?_⟩
    · rw [List.length_ofFn]
      refine ⟨List.length_ofFn, by unfold maxLen at hm; omega, fun _ => ⟨a, rfl, fun j p hp => ?_⟩⟩
      have hj : j < len := by have := (List.getElem?_eq_some_iff.1 hp).1; rwa [List.length_ofFn] at this
      have hp' : p = Classical.choose (hall j hj) := by
        rw [List.getElem?_ofFn, dif_pos hj] at hp
        exact (Option.some.inj hp).symm
      subst hp'
      obtain ⟨c, h1, h2, _, h4⟩ := Classical.choose_spec (hall j hj)
      exact ⟨c, h1, h2, h4⟩
    · intro x hx
      obtain ⟨i, hi, rfl⟩ := List.getElem_of_mem hx
      rw [List.getElem_ofFn]
      obtain ⟨c, _, _, h3, _⟩ := Classical.choose_spec (hall i (by rwa [List.length_ofFn] at hi))
      exact h3
def OpensF (P : Program) (fs : List Field) (off : Nat) (d : Kd α) (G : α → Prop) : Prop :=
  ∀ (H : Type) (enc : TypeId × Value → H) (W : World) (n : Nat) (cs : List Value), cs.length = off + d.sz →
    (∀ (i : Nat) (f : Field), fs[i]? = some f → ∃ y, DataW.trod enc P W 0 (fun _ => true) true n f.type ((cs.drop f.offset).take (P.cellsOf f.type)) = some y) →
    ∃ a, d.K W a (cs.drop off) ∧ G a
theorem opensF_one {d : Kd α} {G : α → Prop} {f : Field} {off : Nat} (ho : f.offset = off) (h : Opens P f.type d G) : OpensF P [f] off d G := by
  intro H enc W n cs hl hf
  obtain ⟨y, hy⟩ := hf 0 f rfl
  rw [ho, h.1, List.take_of_length_le (by rw [List.length_drop]; omega)] at hy
  exact h.2 H enc W n _ y hy
theorem opensF_cons {da : Kd α} {db : Kd β} {Ga : α → Prop} {Gb : β → Prop} {f : Field} {fs : List Field} {off : Nat} (ho : f.offset = off) (h : Opens P f.type da Ga) (hr : OpensF P fs (off + da.sz) db Gb) :
    OpensF P (f :: fs) off (Kd.pair da db) (fun x => Ga x.1 ∧ Gb x.2) := by
  intro H enc W n cs hl hf
  have hl' : cs.length = off + da.sz + db.sz := by have : (Kd.pair da db).sz = da.sz + db.sz := rfl; omega
  obtain ⟨y, hy⟩ := hf 0 f rfl
  rw [ho, h.1] at hy
  obtain ⟨a, hK, hG⟩ := h.2 H enc W n _ y hy
  obtain ⟨b, hK2, hG2⟩ := hr H enc W n cs hl' (fun i g hg => hf (i + 1) g (by simpa using hg))
  refine ⟨(a, b), ⟨_, _, ?_, hK, hK2⟩, hG, hG2⟩
  rw [← List.drop_drop]
  exact (List.take_append_drop _ _).symm
theorem opens_struct {d : Kd α} {G : α → Prop} {fs : Array Field} (ht : P.underlying t = some (.struct fs)) (hc : P.cellsOf t = d.sz) (hF : OpensF P fs.toList 0 d G) : Opens P t d G := by
  refine ⟨hc, fun H enc W fuel cs x h => ?_⟩
  obtain ⟨xs, n, _, _, hl, hlen, hf⟩ := DataW.trod_struct ht h
  have := hF H enc W n cs (by rw [hl, hc, Nat.zero_add]) (fun i f hi => by
    have hi' : fs[i]? = some f := by simpa using hi
    have hlt : i < xs.length := by
      have := (Array.getElem?_eq_some_iff.1 hi').1
      omega
    exact ⟨xs[i], by rw [hf i f hi', List.getElem?_eq_getElem hlt]⟩)
  simpa using this
theorem opens_iso {d : Kd α} {G : α → Prop} (h : Opens P t d G) (f : β → α) (g : α → β) (hfg : ∀ a, f (g a) = a) : Opens P t (Kd.iso d f) (fun b => G (f b)) := by
  refine ⟨h.1, fun H enc W fuel cs x hx => ?_⟩
  obtain ⟨a, hK, hG⟩ := h.2 H enc W fuel cs x hx
  exact ⟨g a, by show d.K W (f (g a)) cs; rw [hfg]; exact hK, by show G (f (g a)); rw [hfg]; exact hG⟩
/-- An argument that is a slice. -/
theorem open_arg {H : Type} {enc : TypeId × Value → H} {W : World} {d : Kd α} {G : List α → Prop} {v : Value} {dd : DataW H} {ps : List MemPlace} (ho : Opens P t (Kd.slice e d) G) (hv : ∃ a len cap, v = .slice a len cap)
    (h : DataW.Trod enc P W 0 (fun _ => true) true t v dd ps) : ∃ A c xs, v = .slice A xs.length c ∧ xs.length ≤ c ∧ d.C W A xs.length xs ∧ G xs := by
  obtain ⟨a, len, cap, rfl⟩ := hv
  obtain ⟨fuel, hf⟩ := h
  obtain ⟨xs, ⟨A, c, he, hl, hC⟩, hG⟩ := ho.2 H enc W fuel _ _ hf
  have hcs : (Value.slice a len cap).cells.toList = [.slice a len cap] := rfl
  rw [hcs] at he
  injection he with he _
  exact ⟨A, c, xs, he, hl, hC, hG⟩
/-- An argument that is a struct. -/
theorem open_agg {H : Type} {enc : TypeId × Value → H} {W : World} {d : Kd α} {G : α → Prop} {v : Value} {dd : DataW H} {ps : List MemPlace} (ho : Opens P t d G) (hv : ∃ cs, v = .agg cs ∧ cs.size = P.cellsOf t)
    (h : DataW.Trod enc P W 0 (fun _ => true) true t v dd ps) : ∃ cs x, v = .agg cs ∧ d.K W x cs.toList ∧ G x := by
  obtain ⟨cs, rfl, _⟩ := hv
  obtain ⟨fuel, hf⟩ := h
  obtain ⟨x, hK, hG⟩ := ho.2 H enc W fuel _ _ hf
  exact ⟨cs, x, rfl, hK, hG⟩
end Go.Proofs.Ytbnkiikpolcpkaa.Op
