/- FnStruckOut: for every input the law holds. No condition. -/
import Derived.Test.YtfooakkhkehpiaaZFnStruckOut1
import Derived.Test.YtfooakkhkehpiaaZFnStruckOut2
import Derived.Test.YtfooakkhkehpiaaZFnStruckOut3
namespace Go.Proofs.Ytfooakkhkehpiaa.PU
open Go.RowKit Go.Proofs.YtfooakkhkehpiaaW.PrintWords Go.Proofs.YtfooakkhkehpiaaW.PrintLast Go.Proofs.YtfooakkhkehpiaaW.PrintMore
attribute [local go_sem] max2_int min2_int max_two min_two max_three min_three max_four min_four   -- for this text's walks alone
set_option linter.unusedVariables false
set_option linter.unusedSimpArgs false
section
open Go.Shelf Go.Lib
namespace Circ
theorem two_ints (w : World) (a b : Int) : Kd.C (Kd.int .i64) (w.alloc (.cells #[.int .i64 a, .int .i64 b] 3)) (some ⟨w.heap.size, 0, none⟩) 2 [a, b] := by
  have hh : (w.alloc (.cells #[.int .i64 a, .int .i64 b] 3)).heap[w.heap.size]? = some (.cells #[.int .i64 a, .int .i64 b] 3 (0, 0)) := by rw [show (w.alloc (.cells #[.int .i64 a, .int .i64 b] 3)).heap = w.heap.push (.cells #[.int .i64 a, .int .i64 b] 3) from rfl]; simp
  refine ⟨rfl, by decide, fun _ => ⟨⟨w.heap.size, 0, none⟩, rfl, fun j p hj => ⟨[.int .i64 p], rfl, rfl, fun i u hu => ?_⟩⟩⟩
  have hi : i = 0 := by
    have := (List.getElem?_eq_some_iff.1 hu).1
    simp at this; exact this
  subst hi
  have hu' : u = .int .i64 p := by simpa using hu.symm
  subst hu'
  have hs : (Kd.int .i64).sz = 1 := rfl
  rw [hs, add_at, Nat.mul_one, Nat.add_zero, Nat.zero_add, blk_cell hh j]
  have hj2 : j < 2 := (List.getElem?_eq_some_iff.1 hj).1
  rcases (by omega : j = 0 ∨ j = 1) with rfl | rfl
  · have : a = p := by simpa using hj
    subst this; rfl
  · have : b = p := by simpa using hj
    subst this; rfl
def cmpv (k : Nat) (l0 l1 : List Int) : Option Int := (cmp_Compare_int.f (l0.length : Int) (l1.length : Int)).bind fun a => (slices_Compare_int_int.f k l0 l1).bind fun b => cmp_Or_int.f k [a, b]
set_option maxHeartbeats 4000000 in
set_option maxRecDepth 100000 in
theorem circles2 (k : Nat) (A0 : Option Addr) (c0 : Nat) (l0 : List Int) (A1 : Option Addr) (c1 : Nat) (l1 : List Int) (r : Int) (w : World) (hr0 : Kd.C (Kd.int .i64) w A0 l0.length l0) (hc0 : l0.length ≤ c0) (hr1 : Kd.C (Kd.int .i64) w A1 l1.length l1) (hc1 : l1.length ≤ c1) (h : cmpv k l0 l1 = some r) :
    Calls Try.prog 118 #[.slice A0 l0.length c0, .slice A1 l1.length c1] w fun e w' => e = .returned (.int .i64 r) ∧ ∃ n1 o n2, w' = ((w.drewN n1).alloc o).drewN n2 := by
  have HR0 := Aside0.mk hr0
  have HR1 := Aside0.mk hr1
  obtain ⟨a, ha, h⟩ := Option.bind_eq_some_iff.mp h
  obtain ⟨b, hb, h⟩ := Option.bind_eq_some_iff.mp h
  have HA := Aside0.mk ha
  have HB := Aside0.mk hb
  have HO := Aside0.mk h
  clear hr0 hr1 ha hb h
  go_enter Try.func118, Try.ntmps118
  go_wp2_with (first | (go_at_call 120; refine (cmp_Compare_int.calls _ _ a _ HA.out).mono ?_; rintro e w1 ⟨rfl, ⟨n1, rfl⟩⟩) | (go_at_call 121; refine (slices_Compare_int_int.calls k _ _ l0 _ _ l1 b _ ?s1 ?s2 ?s3 ?s4 HB.out).mono ?_; (case s1 => repeat (first | exact HR0.out | (with_reducible refine Kd.C_drewN ?_ _) | (with_reducible refine Kd.C_drew ?_))); (case s2 => exact hc0); (case s3 => repeat (first | exact HR1.out | (with_reducible refine Kd.C_drewN ?_ _) | (with_reducible refine Kd.C_drew ?_))); (case s4 => exact hc1); rintro e w2 ⟨rfl, ⟨n2, rfl⟩⟩) | (go_at_call 119; refine (cmp_Or_int.calls k _ 2 [a, b] r _ ?s1 ?s2 HO.out).mono ?_; (case s1 => exact two_ints _ a b); (case s2 => exact Nat.le_refl _); rintro e w3 ⟨rfl, ⟨n3, rfl⟩⟩))
  go_ret
  exact ⟨rfl, _, _, _, rfl⟩
section
open Go.Sort
def rn : Ren := ⟨fun _ => 133, fun n => if n = 22 then 23 else if n = 24 then 22 else if n = 25 then 120 else n, fun n => n⟩
set_option maxRecDepth 100000 in
theorem laid : SlLaysF.n20 Try.prog rn := {
  mixed := by kernel_rfl
  f20 := ⟨"slices.insertionSortCmpFunc[[]int]", by kernel_rfl, by kernel_rfl⟩
  t0 := by kernel_rfl
  a0 := fun _ => rfl
  z0 := fun _ => rfl
  v0 := fun _ => rfl
  t3 := by kernel_rfl
  a3 := fun _ => rfl
  z3 := fun _ => rfl
  v3 := fun _ => rfl
  t4 := by kernel_rfl
  a4 := fun _ => rfl
  z4 := fun _ => rfl
  v4 := fun _ => rfl
  t22 := by kernel_rfl
  a22 := fun _ => rfl
  z22 := fun _ => rfl
  v22 := fun _ => rfl
  a24 := fun _ => rfl
  z24 := fun _ => rfl
  t25 := by kernel_rfl
  a25 := fun _ => rfl
  z25 := fun _ => rfl
  v25 := fun _ => rfl }
end
def cmpI (a b : Int) : Int := if a < b then -1 else if a > b then 1 else 0
def lexc : List Int → List Int → Int
  | [], b => if 0 < b.length then -1 else 0
  | _ :: _, [] => 1
  | a :: r, b :: s => if cmpI a b = 0 then lexc r s else cmpI a b
def cmpl (a b : List Int) : Int := if cmpI (a.length : Int) (b.length : Int) = 0 then lexc a b else cmpI (a.length : Int) (b.length : Int)
theorem compI (a b : Int) : cmp_Compare_int.f a b = some (cmpI a b) := by
  unfold cmp_Compare_int.f cmp_isNaN_int.f cmpI
  by_cases h : a < b
  · simp [h]
  · by_cases h2 : a > b
    · simp [h, h2]
    · simp [h, h2]
theorem c_drop (xs : List Int) (i : Nat) (h : i < xs.length) : xs.drop i = rd xs (i : Int) :: xs.drop (i + 1) := by
  rw [List.drop_eq_getElem_cons h]; simp [rd, List.getD_eq_getElem?_getD, List.getElem?_eq_getElem h]
theorem lex_l (a b : List Int) (ha : a.length ≤ 9223372036854775807) : ∀ (e i k : Nat), a.length - i = e → i ≤ a.length → e < k → slices_Compare_int_int.l0 k a b a (a.length : Int) (i : Int) = some (lexc (a.drop i) (b.drop i)) := by
  intro e
  induction e with
  | zero =>
    intro i k he hi hk
    obtain ⟨k, rfl⟩ : ∃ m, k = m + 1 := ⟨k - 1, by omega⟩
    obtain rfl : i = a.length := by omega
    simp only [slices_Compare_int_int.l0]
    rw [if_neg (by omega), List.drop_length, lexc]
    by_cases h : a.length < b.length
    · rw [if_pos (by omega), if_pos (by rw [List.length_drop]; omega)]
    · rw [if_neg (by omega), if_neg (by rw [List.length_drop]; omega)]
  | succ e ih =>
    intro i k he hi hk
    obtain ⟨k, rfl⟩ : ∃ m, k = m + 1 := ⟨k - 1, by omega⟩
    have hw : wrap64 ((i : Int) + 1) = ((i + 1 : Nat) : Int) := by unfold wrap64; omega
    simp only [slices_Compare_int_int.l0]
    rw [if_pos (by omega), if_pos (by omega), if_pos (by omega), hw, c_drop a i (by omega)]
    by_cases h : i < b.length
    · rw [if_neg (by omega), if_pos (by omega), compI, Option.bind_some, c_drop b i h, lexc]
      by_cases hc : cmpI (rd a (i : Int)) (rd b (i : Int)) = 0
      · rw [if_pos hc, if_pos hc]
        exact ih (i + 1) k (by omega) (by omega) (by omega)
      · rw [if_neg hc, if_neg hc]
    · rw [if_pos (by omega), List.drop_of_length_le (show b.length ≤ i by omega), lexc]
theorem orI (a b : Int) : cmp_Or_int.f 3 [a, b] = some (if a = 0 then b else a) := by
  unfold cmp_Or_int.f
  have w1 : wrap64 (1 : Int) = 1 := by unfold wrap64; omega
  have w2 : wrap64 (2 : Int) = 2 := by unfold wrap64; omega
  have e0 : ∀ x y : Int, rd [x, y] 0 = x := fun _ _ => rfl
  have e1 : ∀ x y : Int, rd [x, y] 1 = y := fun _ _ => rfl
  by_cases h : a = 0
  · by_cases h2 : b = 0
    · simp [cmp_Or_int.l0, w1, w2, e0, e1, h, h2]
    · simp [cmp_Or_int.l0, w1, w2, e0, e1, h, h2]
  · simp [cmp_Or_int.l0, e0, h]
theorem cmpv_ev (a b : List Int) (ha : a.length ≤ 9223372036854775807) : ∃ k, cmpv k a b = some (cmpl a b) := by
  refine ⟨a.length + 3, ?_⟩
  unfold cmpv cmpl
  rw [compI, Option.bind_some]
  unfold slices_Compare_int_int.f
  have := lex_l a b ha a.length 0 (a.length + 3) (by omega) (by omega) (by omega)
  rw [List.drop_zero, List.drop_zero] at this
  rw [show ((0 : Nat) : Int) = 0 from rfl] at this
  rw [this, Option.bind_some]
  have hm : ∀ n, cmp_Or_int.f (n + 3) [cmpI (a.length : Int) (b.length : Int), lexc a b] = some (if cmpI (a.length : Int) (b.length : Int) = 0 then lexc a b else cmpI (a.length : Int) (b.length : Int)) := by
    intro n
    induction n with
    | zero => exact orI _ _
    | succ n ih => exact cmp_Or_int.mono _ _ _ ih
  exact hm _
def El (w0 : World) (okk : Nat → Prop) : Type := { x : Option Addr × Nat × List Int // x.2.2.length ≤ x.2.1 ∧ Kd.F (Kd.int .i64) w0 okk x.1 x.2.2.length x.2.2 }
instance {w0 : World} {okk : Nat → Prop} : Inhabited (El w0 okk) := ⟨⟨(none, 0, []), Nat.le_refl _, Kd.F_nil _ _ _⟩⟩
def El.enc {w0 : World} {okk : Nat → Prop} (x : El w0 okk) : Value := .slice x.1.1 x.1.2.2.length x.1.2.1
def El.l {w0 : World} {okk : Nat → Prop} (x : El w0 okk) : List Int := x.1.2.2
def El.cf {w0 : World} {okk : Nat → Prop} (x y : El w0 okk) : Int := cmpl x.l y.l
section
variable {w0 W : World} {okk ok : Nat → Prop} {blk n cap base : Nat} {xs : List (List Int)}
theorem El.one : OneCell (El.enc : El w0 okk → Value) := fun _ => rfl
theorem el_of {x : List Int} {c : List Value} (h : Kd.FK (Kd.slice 3 (Kd.int .i64)) w0 okk x c) : ∃ e : El w0 okk, e.l = x ∧ [e.enc] = c := by
  obtain ⟨A, cp, rfl, hl, hC⟩ := Kd.FK_now h
  refine ⟨⟨(A, cp, x), hl, fun W' hW => ?_⟩, rfl, rfl⟩
  obtain ⟨A', cp', he, _, hC'⟩ := h W' hW
  have h1 := congrArg (fun l => l[0]?) he
  have h2 := Option.some.inj (show some (Value.slice A x.length cp) = some (Value.slice A' x.length cp') from h1)
  injection h2 with h3 _ _
  show Kd.C (Kd.int .i64) W' A x.length x
  rw [h3]; exact hC'
theorem els_of : ∀ (ys : List (List Int)) (cs : List (List Value)), ys.length = cs.length → (∀ (j : Nat) (x : List Int) (c : List Value), ys[j]? = some x → cs[j]? = some c → Kd.FK (Kd.slice 3 (Kd.int .i64)) w0 okk x c) → ∃ ds : List (El w0 okk), ds.map El.l = ys ∧ ds.map (fun x => [x.enc]) = cs
  | [], cs, hl, _ => ⟨[], rfl, by cases cs with
    | nil => rfl
    | cons a r => simp at hl⟩
  | y :: ys, [], hl, _ => by simp at hl
  | y :: ys, c :: cs, hl, h => by
    obtain ⟨e, h1, h2⟩ := el_of (h 0 y c rfl rfl)
    obtain ⟨ds, h3, h4⟩ := els_of ys cs (by simpa using hl) (fun j x c hx hc => h (j + 1) x c (by simpa using hx) (by simpa using hc))
    exact ⟨e :: ds, by simp [h1, h3], by simp [h2, h4]⟩
theorem blk_holds (d : Array (El w0 okk)) {cur : Array Value} (hh : w0.heap[blk]? = some (.cells cur 22 (0, 0))) (hc : ∀ j, j < d.size → cur[j]? = some (d[j]!).enc) : Go.Sort.Holds El.enc w0 blk 0 d := fun j hj => by
  rw [Nat.zero_add]
  exact ⟨(blk_cell hh j).trans (hc j hj), blk_frozen hh j⟩
theorem sw_heap {d' : Array (El w0 okk)} (S : SW El.enc w0 blk 0 d' W) (hblk : blk < w0.heap.size) : Kept w0 W (fun k => k = blk) ∧ W.os = w0.os ∧ W.tape = w0.tape ∧ W.output = w0.output ∧ ∀ {cur : Array Value}, w0.heap[blk]? = some (.cells cur 22 (0, 0)) → W.heap[blk]? = some (.cells (Go.Sort.putCells El.enc 0 d' cur) 22 (0, 0)) := by
  obtain ⟨m, os, rfl⟩ := S
  have hs : (Go.Sort.putRow El.enc (Go.Sort.ahead w0 m) blk 0 d').heap.size = w0.heap.size := by rw [size_putRow]; rfl
  refine ⟨⟨?_, fun k hk hn => ?_⟩, rfl, rfl, rfl, fun {cur} hh => ?_⟩
  · unfold sortWorld; rw [Go.Sort.size_grow, hs]; omega
  · show ((Go.Sort.putRow El.enc (Go.Sort.ahead w0 m) blk 0 d').heap ++ os)[k]? = _
    rw [Array.getElem?_append_left (by rw [hs]; exact hk)]
    show (w0.heap.modify blk _)[k]? = _
    rw [Array.getElem?_modify, if_neg (fun e => hn e.symm)]
  · show ((Go.Sort.putRow El.enc (Go.Sort.ahead w0 m) blk 0 d').heap ++ os)[blk]? = _
    rw [Array.getElem?_append_left (by rw [hs]; exact hblk)]
    show (w0.heap.modify blk _)[blk]? = _
    rw [Array.getElem?_modify, if_pos rfl, hh]
    rfl
end
section
variable {w0 W : World} {ok : Nat → Prop} {blk n cap base : Nat} {xs : List (List Int)}
structure RowOf (w0 : World) (base : Nat) (ok : Nat → Prop) (blk n cap : Nat) (cur : Array Value) (d : Array (El w0 (fun k => ok k ∧ k ≠ blk))) : Prop where
  hh : w0.heap[blk]? = some (.cells cur 22 (0, 0))
  hd : d.size = n
  hc : ∀ j, j < d.size → cur[j]? = some (d[j]!).enc
  hb : base ≤ blk
  hn : n ≤ cap
  hm : cap ≤ maxLen
  hs : cur.size = cap
  hok : ok blk
theorem N_els (h : Kd.N (Kd.slice 3 (Kd.int .i64)) 22 w0 base ok (.slice (some ⟨blk, 0, none⟩) n cap) xs) :
    ∃ cur d, RowOf w0 base ok blk n cap cur d ∧ d.toList.map El.l = xs := by
  obtain ⟨h0, rows, hl, hR, hF⟩ := h
  have hbl : (Value.slice (some ⟨blk, 0, none⟩) n cap).ownBlock = some blk := by simp [Value.ownBlock]
  obtain ⟨ds, h1, h2⟩ := els_of (w0 := w0) (okk := fun k => ok k ∧ k ≠ blk) xs rows hl.symm (fun j x c hx hc => Foot.mono (hF j x c hx hc) (fun k hk => ⟨hk.1, fun e => hk.2 (by rw [hbl, e])⟩))
  obtain ⟨_, inner, ho, hr⟩ := hR
  rcases ho.2 with ⟨hv, _⟩ | ⟨g, cap', cur, hv, hg, hh, hn, hm, hs, ht⟩
  · cases hv
  injection hv with hA hN hC
  injection hA with hA
  injection hA with hA
  subst hA; subst hC
  have hsz : (Kd.raw (Kd.slice 3 (Kd.int .i64)).sz).sz = 1 := rfl
  rw [hsz] at hs ht hr
  rw [Nat.mul_one] at hs ht
  have hdl : ds.length = rows.length := by rw [← h2, List.length_map]
  refine ⟨cur, ds.toArray, ⟨hh, by simp [hdl, hN], fun j hj => ?_, hg, by omega, hm, hs, h0 blk hbl⟩, by simpa using h1⟩
  have hj' : j < ds.length := by simpa using hj
  have hjr : rows[j]? = some [(ds[j]).enc] := by rw [← h2, List.getElem?_map, List.getElem?_eq_getElem hj']; rfl
  have hM := hr.2 j _ hjr
  have e1 : (inner.drop (j * 1)).take 1 = [(ds[j]).enc] := hM.1
  rw [Nat.mul_one] at e1
  have hil : inner.length = rows.length := by have := hr.1; omega
  have e2 : inner[j]? = some (ds[j]).enc := by
    have hji : j < inner.length := by omega
    rw [List.drop_eq_getElem_cons hji, List.take_succ_cons, List.take_zero] at e1
    injection e1 with e5 _
    rw [List.getElem?_eq_getElem hji, e5]
  have e3 : cur.toList[j]? = some (ds[j]).enc := by
    rw [← e2, ← ht, List.getElem?_take, if_pos (by omega)]
  have e4 : (ds.toArray)[j]! = ds[j] := by simp [hj']
  rw [e4, ← Array.getElem?_toList]
  exact e3
theorem put_take {okk : Nat → Prop} (cur : Array Value) (d' : Array (El w0 okk)) (h : d'.size ≤ cur.size) : (Go.Sort.putCells El.enc 0 d' cur).toList.take d'.size = d'.toList.map El.enc := by
  apply List.ext_getElem?
  intro j
  rw [List.getElem?_take, List.getElem?_map, Array.getElem?_toList, Array.getElem?_toList]
  unfold Go.Sort.putCells
  rw [Array.getElem?_mapIdx]
  by_cases hj : j < d'.size
  · rw [if_pos hj, Array.getElem?_eq_getElem (show j < cur.size by omega), Array.getElem?_eq_getElem hj]
    simp only [Option.map_some]
    rw [if_pos ⟨Nat.zero_le _, by omega⟩, Nat.sub_zero, getElem!_pos d' j hj]
  · rw [if_neg hj, Array.getElem?_eq_none (by omega)]; rfl
theorem N_back {cur : Array Value} {d d' : Array (El w0 (fun k => ok k ∧ k ≠ blk))} (R : RowOf w0 base ok blk n cap cur d) (hs : d'.size = n) (S : SW El.enc w0 blk 0 d' W) :
    Kd.N (Kd.slice 3 (Kd.int .i64)) 22 W base ok (.slice (some ⟨blk, 0, none⟩) n cap) (d'.toList.map El.l) := by
  have hblk : blk < w0.heap.size := (Array.getElem?_eq_some_iff.1 R.hh).1
  obtain ⟨hk, _, _, _, hcur⟩ := sw_heap S hblk
  have hbl : (Value.slice (some ⟨blk, 0, none⟩) n cap).ownBlock = some blk := by simp [Value.ownBlock]
  have hsz : (Kd.raw (Kd.slice 3 (Kd.int .i64)).sz).sz = 1 := rfl
  refine ⟨fun k hk => ?_, d'.toList.map (fun x => [x.enc]), by simp, ⟨fun k hk => hk.symm, d'.toList.map El.enc, ?_, ?_, ?_⟩, fun j x c hx hc => ?_⟩
  · rw [hbl] at hk; injection hk with hk; subst hk; exact R.hok
  · rw [hsz]
    refine ⟨by simp, .inr ⟨blk, cap, _, ?_, R.hb, hcur R.hh, ?_, R.hm, ?_, ?_⟩⟩
    · simp [hs]
    · simp [hs]; exact R.hn
    · rw [Nat.mul_one]; unfold Go.Sort.putCells; rw [Array.size_mapIdx]; exact R.hs
    · rw [Nat.mul_one]
      have := put_take cur d' (by rw [hs, R.hs]; exact R.hn)
      simpa using this
  · rw [hsz]; simp
  · intro j p hj
    have hj' : j < d'.toList.length := by have := (List.getElem?_eq_some_iff.1 hj).1; simpa using this
    rw [List.getElem?_map, List.getElem?_eq_getElem hj'] at hj
    have hp : p = [(d'.toList[j]).enc] := (Option.some.inj hj).symm
    subst hp
    have ecs : ((d'.toList.map El.enc).drop (j * 1)).take 1 = [(d'.toList[j]).enc] := by
      rw [Nat.mul_one, List.drop_eq_getElem_cons (by simpa using hj'), List.take_succ_cons, List.take_zero]; simp
    rw [hsz, ecs]
    exact ⟨rfl, rfl, fun u hu => by rw [List.mem_singleton.1 hu]; rfl⟩
  · have hj' : j < d'.toList.length := by have := (List.getElem?_eq_some_iff.1 hx).1; simpa using this
    rw [List.getElem?_map, List.getElem?_eq_getElem hj'] at hx hc
    obtain rfl := Option.some.inj hx
    obtain rfl := Option.some.inj hc
    have hF := (d'.toList[j]).2.2
    have hF2 : Kd.F (Kd.int .i64) W (fun k => ok k ∧ k ≠ blk) _ _ _ := Kd.F_kept hF hk (fun k hk => hk.2)
    intro W' hW
    exact ⟨(d'.toList[j]).1.1, (d'.toList[j]).1.2.1, rfl, (d'.toList[j]).2.1, hF2 W' (fun k hk hlt => hW k ⟨hk.1, fun e => hk.2 (by rw [hbl] at e; injection e)⟩ hlt)⟩
end
def insL : Nat → List (List Int) → List (List Int)
  | 0, xs => xs
  | j + 1, xs => if cmpl (xs.getD (j + 1) []) (xs.getD j []) < 0 then insL j ((xs.set (j + 1) (xs.getD j [])).set j (xs.getD (j + 1) [])) else xs
def srtL : Nat → Nat → List (List Int) → List (List Int)
  | 0, _, xs => xs
  | e + 1, i, xs => srtL e (i + 1) (insL i xs)
section
variable {w0 W : World} {okk ok : Nat → Prop} {blk n cap base : Nat} {xs : List (List Int)}
theorem mp_get (d : Array (El w0 okk)) {j : Nat} (hj : j < d.size) : (d.toList.map El.l).getD j [] = (d[j]!).l := by
  rw [List.getD_eq_getElem?_getD, List.getElem?_map, Array.getElem?_toList, Array.getElem?_eq_getElem hj, getElem!_pos d j hj]; rfl
theorem mp_set (d : Array (El w0 okk)) (j : Nat) (x : El w0 okk) : (d.setIfInBounds j x).toList.map El.l = (d.toList.map El.l).set j x.l := by
  rw [Array.toList_setIfInBounds, List.map_set]
theorem ins_eq : ∀ (j : Nat) (d : Array (El w0 okk)), j < d.size → (Go.Sort.insInner (ltOf El.cf) 0 j d).toList.map El.l = insL j (d.toList.map El.l) ∧ (Go.Sort.insInner (ltOf El.cf) 0 j d).size = d.size
  | 0, d, _ => ⟨rfl, rfl⟩
  | j + 1, d, hj => by
    rw [Go.Sort.insInner, insL, mp_get d hj, mp_get d (show j < d.size by omega)]
    by_cases h : cmpl (d[j + 1]!).l (d[j]!).l < 0
    · have hl : (decide (j + 1 > 0) && ltOf El.cf d[j + 1]! d[j]!) = true := by
        rw [Bool.and_eq_true]; exact ⟨decide_eq_true (by omega), decide_eq_true h⟩
      rw [if_pos hl, if_pos h]
      have hs : (Go.Sort.swp d (j + 1) j).size = d.size := by unfold Go.Sort.swp; simp
      obtain ⟨h1, h2⟩ := ins_eq j (Go.Sort.swp d (j + 1) j) (by omega)
      refine ⟨?_, by rw [h2, hs]⟩
      rw [h1]
      congr 1
      unfold Go.Sort.swp
      rw [mp_set, mp_set]
    · have hl : ¬ (decide (j + 1 > 0) && ltOf El.cf d[j + 1]! d[j]!) = true := by
        rw [Bool.and_eq_true]; rintro ⟨_, z⟩; exact h (of_decide_eq_true z)
      rw [if_neg hl, if_neg h]
      exact ⟨rfl, rfl⟩
theorem srt_eq : ∀ (e i b : Nat) (d : Array (El w0 okk)), b - i = e → b ≤ d.size → (Go.Sort.insOuter (ltOf El.cf) 0 b i d).toList.map El.l = srtL e i (d.toList.map El.l) ∧ (Go.Sort.insOuter (ltOf El.cf) 0 b i d).size = d.size
  | 0, i, b, d, he, hb => by
    rw [Go.Sort.insOuter, if_neg (by omega)]
    exact ⟨rfl, rfl⟩
  | e + 1, i, b, d, he, hb => by
    rw [Go.Sort.insOuter, if_pos (by omega), srtL]
    obtain ⟨h1, h2⟩ := ins_eq i d (by omega)
    obtain ⟨h3, h4⟩ := srt_eq e (i + 1) b (Go.Sort.insInner (ltOf El.cf) 0 i d) (by omega) (by omega)
    exact ⟨by rw [h3, h1], by rw [h4, h2]⟩
theorem cmp_lays (hblk : blk < w0.heap.size) (size : Nat) : CmpLays1 Try.prog 118 #[] (El.enc : El w0 (fun k => ok k ∧ k ≠ blk) → Value) El.cf blk 0 size w0 := by
  intro m os dk hs x y
  have S : SW El.enc w0 blk 0 dk (sortWorld El.enc w0 blk 0 m dk os) := ⟨m, os, rfl⟩
  have hk := (sw_heap S hblk).1
  have hx := x.2.2 (sortWorld El.enc w0 blk 0 m dk os) (fun k hk' hlt => hk.2 k hlt hk'.2)
  have hy := y.2.2 (sortWorld El.enc w0 blk 0 m dk os) (fun k hk' hlt => hk.2 k hlt hk'.2)
  obtain ⟨k, hkv⟩ := cmpv_ev x.l y.l hx.2.1
  refine (circles2 k _ _ x.l _ _ y.l _ _ hx x.2.1 hy y.2.1 hkv).mono ?_
  rintro e w' ⟨rfl, n1, o, n2, rfl⟩
  exact ⟨rfl, n1 + n2, #[o], by rw [Go.Sort.alloc_eq_grow]; simp [World.drewN, Go.Sort.grow, Nat.add_assoc]⟩
def Sorted (w0 : World) (base : Nat) (ok : Nat → Prop) (blk n cap : Nat) (ys : List (List Int)) (w' : World) : Prop :=
  Kd.N (Kd.slice 3 (Kd.int .i64)) 22 w' base ok (.slice (some ⟨blk, 0, none⟩) n cap) ys ∧ Kept w0 w' (fun k => k = blk) ∧ w'.os = w0.os ∧ w'.tape = w0.tape ∧ w'.output = w0.output
theorem ins133 (h : Kd.N (Kd.slice 3 (Kd.int .i64)) 22 w0 base ok (.slice (some ⟨blk, 0, none⟩) n cap) xs) (hn : n ≤ 1000) (a : Nat) (ha : a = 0 ∨ a = n) :
    Calls Try.prog 133 #[.slice (some ⟨blk, 0, none⟩) n cap, .int .i64 (a : Int), .int .i64 (n : Int), .func (.func 118) #[] #[]] w0 fun e w' => e = .returned (.tuple #[]) ∧ Sorted w0 base ok blk n cap (if a = 0 then srtL (n - 1) 1 xs else xs) w' := by
  obtain ⟨cur, d, R, hx⟩ := N_els h
  have hblk : blk < w0.heap.size := (Array.getElem?_eq_some_iff.1 R.hh).1
  have hH := blk_holds d R.hh R.hc
  have hmain := Any.insertionSortCmpFunc_s laid El.enc El.cf 118 #[] blk 0 cap a n d d w0 w0 (enters_of Try.func118 (by kernel_rfl) rfl) (cmp_lays hblk d.size) ⟨El.one, hH, hblk⟩ rfl (SW.start hH) (by omega) (by rw [R.hd]; exact Nat.le_refl _) (by rw [R.hd]; omega)
  rw [R.hd] at hmain
  refine hmain.mono ?_
  rintro e w' ⟨rfl, S⟩
  unfold Go.Sort.insertionSort at S
  have hb2 : n ≤ d.size := by rw [R.hd]; exact Nat.le_refl _
  obtain ⟨hk, ho, ht, hu, _⟩ := sw_heap S hblk
  have fin : (Go.Sort.insOuter (ltOf El.cf) a n (a + 1) d).size = n ∧ (Go.Sort.insOuter (ltOf El.cf) a n (a + 1) d).toList.map El.l = if a = 0 then srtL (n - 1) 1 xs else xs := by
    rcases ha with rfl | rfl
    · obtain ⟨h1, h2⟩ := srt_eq (n - 1) 1 n d (by omega) hb2
      exact ⟨by rw [h2, R.hd], by rw [if_pos rfl, h1, hx]⟩
    · rw [Go.Sort.insOuter, if_neg (by omega)]
      refine ⟨R.hd, ?_⟩
      by_cases h0 : a = 0
      · subst h0
        have : xs = [] := by
          rw [← hx]
          have : d.toList = [] := List.eq_nil_of_length_eq_zero (by simpa using R.hd)
          rw [this]; rfl
        rw [if_pos rfl, this]
        have : d.toList = [] := List.eq_nil_of_length_eq_zero (by simpa using R.hd)
        rw [this]; rfl
      · rw [if_neg h0, hx]
  refine ⟨rfl, ?_, hk, ho, ht, hu⟩
  rw [← fin.2]
  exact N_back R fin.1 S
end
section
variable {w0 w1 w2 : World} {ok : Nat → Prop} {blk n cap base : Nat} {xs ys : List (List Int)}
theorem Sorted.refl (h : Kd.N (Kd.slice 3 (Kd.int .i64)) 22 w0 base ok (.slice (some ⟨blk, 0, none⟩) n cap) xs) : Sorted w0 base ok blk n cap xs w0 := ⟨h, Kept.refl _ _, rfl, rfl, rfl⟩
theorem Sorted.drewN (h : Sorted w0 base ok blk n cap xs w1) (m : Nat) : Sorted w0 base ok blk n cap xs (w1.drewN m) := ⟨Kd.N_drewN h.1 m, Kept.drewN h.2.1 m, h.2.2⟩
theorem Sorted.drew (h : Sorted w0 base ok blk n cap xs w1) : Sorted w0 base ok blk n cap xs w1.drew := ⟨Kd.N_drew h.1, Kept.drew h.2.1, h.2.2⟩
theorem Sorted.trans (h : Sorted w0 base ok blk n cap xs w1) (k : Sorted w1 base ok blk n cap ys w2) : Sorted w0 base ok blk n cap ys w2 :=
  ⟨k.1, ⟨Nat.le_trans h.2.1.1 k.2.1.1, fun i hi hn => (k.2.1.2 i (Nat.lt_of_lt_of_le hi h.2.1.1) hn).trans (h.2.1.2 i hi hn)⟩, k.2.2.1.trans h.2.2.1, k.2.2.2.1.trans h.2.2.2.1, k.2.2.2.2.trans h.2.2.2.2⟩
theorem ins133b (h : Kd.N (Kd.slice 3 (Kd.int .i64)) 22 w0 base ok (.slice (some ⟨blk, 0, none⟩) n cap) xs) (hn : n ≤ 1000) (a : Nat) (ha : a = 0 ∨ a = n) (x y : Int) (hx : x = (a : Int)) (hy : y = (n : Int)) :
    Calls Try.prog 133 #[.slice (some ⟨blk, 0, none⟩) n cap, .int .i64 x, .int .i64 y, .func (.func 118) #[] #[]] w0 fun e w' => e = .returned (.tuple #[]) ∧ Sorted w0 base ok blk n cap (if a = 0 then srtL (n - 1) 1 xs else xs) w' := by
  subst hx; subst hy; exact ins133 h hn a ha
set_option maxHeartbeats 4000000 in
set_option maxRecDepth 100000 in
theorem ins133_0 (A : Option Addr) (c : Nat) (w : World) : Calls Try.prog 133 #[.slice A 0 c, .int .i64 0, .int .i64 0, .func (.func 118) #[] #[]] w fun e w' => e = .returned (.tuple #[]) ∧ Drawn0 w w' := by
  go_enter Try.func133, Try.ntmps133
  go_wp2
  repeat (go_quiet (fail); try go_wp2)
  go_loopg [8] 0 (fun kq v8 w' => v8 = .int .i64 1 ∧ Drawn0 w w')
  case atStart => exact ⟨rfl, by repeat (first | exact Drawn0.refl _ | apply Drawn0.step)⟩
  case round =>
    obtain ⟨rfl, ⟨m1, rfl⟩⟩ := hrel
    go_wp2
    repeat (go_quiet (fail); try go_wp2)
    go_end0
    exact ⟨rfl, by repeat (first | exact Drawn0.refl _ | apply Drawn0.step)⟩
set_option maxHeartbeats 4000000 in
set_option maxRecDepth 100000 in
theorem stable129_lt (h : Kd.N (Kd.slice 3 (Kd.int .i64)) 22 w0 base ok (.slice (some ⟨blk, 0, none⟩) n cap) xs) (hn : n < 20) :
    Calls Try.prog 129 #[.slice (some ⟨blk, 0, none⟩) n cap, .int .i64 (n : Int), .func (.func 118) #[] #[]] w0 fun e w' => e = .returned (.tuple #[]) ∧ Sorted w0 base ok blk n cap (srtL (n - 1) 1 xs) w' := by
  have HS := Aside0.mk (Sorted.refl h)
  have hc1 : decide ((20 : Int) ≤ (n : Int)) = false := decide_eq_false (by omega)
  have hc2 : decide ((20 : Int) < (n : Int)) = false := decide_eq_false (by omega)
  go_enter Try.func129, Try.ntmps129
  go_wp2
  go_loopg [7, 8] 0 (fun kq v7 v8 w' => v7 = .int .i64 0 ∧ v8 = .int .i64 20 ∧ Aside0 (Sorted w0 base ok blk n cap xs w'))
  case atStart => exact ⟨rfl, rfl, ⟨HS.out⟩⟩
  case round =>
    clear HS
    obtain ⟨rfl, rfl, HS⟩ := hrel
    go_wp2_with (go_at_call 133; refine (ins133 (show Kd.N (Kd.slice 3 (Kd.int .i64)) 22 _ base ok (.slice (some ⟨blk, 0, none⟩) n cap) _ by (repeat (first | with_reducible refine Kd.N_drewN ?_ _ | with_reducible refine Kd.N_drew ?_)); exact HS.out.1) (by omega) 0 (Or.inl rfl)).mono ?_; rintro e w9 ⟨rfl, hs⟩; have n0_ := Aside0.mk (Sorted.trans (show Sorted w0 base ok blk n cap _ _ by (repeat (first | with_reducible refine Sorted.drewN ?_ _ | with_reducible refine Sorted.drew ?_)); exact HS.out) hs); clear HS hs; have HS := n0_; clear n0_)
    go_loopg [6] 0 (fun kq v6 w' => v6 = .int .i64 20 ∧ Aside0 (Sorted w0 base ok blk n cap (srtL (n - 1) 1 xs) w'))
    case atStart => exact ⟨rfl, ⟨by (repeat (first | with_reducible refine Sorted.drewN ?_ _ | with_reducible refine Sorted.drew ?_)); exact HS.out⟩⟩
    case round =>
      clear HS
      obtain ⟨rfl, HS⟩ := hrel
      go_wp2
      go_end0
      exact ⟨rfl, by (repeat (first | with_reducible refine Sorted.drewN ?_ _ | with_reducible refine Sorted.drew ?_)); exact HS.out⟩
set_option maxHeartbeats 4000000 in
set_option maxRecDepth 100000 in
theorem stable129_20 (h : Kd.N (Kd.slice 3 (Kd.int .i64)) 22 w0 base ok (.slice (some ⟨blk, 0, none⟩) n cap) xs) (hn : n = 20) :
    Calls Try.prog 129 #[.slice (some ⟨blk, 0, none⟩) n cap, .int .i64 (n : Int), .func (.func 118) #[] #[]] w0 fun e w' => e = .returned (.tuple #[]) ∧ Sorted w0 base ok blk n cap (srtL (n - 1) 1 xs) w' := by
  have HS := Aside0.mk (Sorted.refl h)
  have hc1 : decide ((20 : Int) ≤ (n : Int)) = true := decide_eq_true (by omega)
  have hc2 : decide ((20 : Int) < (n : Int)) = false := decide_eq_false (by omega)
  have hc3 : decide ((40 : Int) ≤ (n : Int)) = false := decide_eq_false (by omega)
  have w40 : wrap64 ((20 : Int) + 20) = 40 := by unfold wrap64; omega
  have HN := Aside0.mk hn
  clear hn
  go_enter Try.func129, Try.ntmps129
  go_wp2
  go_loopg [7, 8] 1 (fun kq v7 v8 w' => (kq = 1 ∧ v7 = .int .i64 0 ∧ v8 = .int .i64 20 ∧ Aside0 (Sorted w0 base ok blk n cap xs w')) ∨ (v7 = .int .i64 (n : Int) ∧ v8 = .int .i64 40 ∧ Aside0 (Sorted w0 base ok blk n cap (srtL (n - 1) 1 xs) w')))
  case atStart => exact .inl ⟨rfl, rfl, rfl, ⟨HS.out⟩⟩
  case round =>
    clear HS
    rcases hrel with ⟨rfl, rfl, rfl, HS⟩ | ⟨rfl, rfl, HS⟩
    · go_wp2_with (go_at_call 133; refine (ins133b (show Kd.N (Kd.slice 3 (Kd.int .i64)) 22 _ base ok (.slice (some ⟨blk, 0, none⟩) n cap) _ by (repeat (first | with_reducible refine Kd.N_drewN ?_ _ | with_reducible refine Kd.N_drew ?_)); exact HS.out.1) (by have := HN.out; omega) 0 (Or.inl rfl) _ _ ?hx ?hy).mono ?_; (case hx => rfl); (case hy => have := HN.out; omega); rintro e w9 ⟨rfl, hs⟩; rw [if_pos rfl] at hs; have n0_ := Aside0.mk (Sorted.trans (show Sorted w0 base ok blk n cap _ _ by (repeat (first | with_reducible refine Sorted.drewN ?_ _ | with_reducible refine Sorted.drew ?_)); exact HS.out) hs); clear HS hs; have HS := n0_; clear n0_)
      go_roundg 0
      case measure => omega
      case rel => exact .inr ⟨by first | rfl | (rw [HN.out]; rfl), by first | rfl | (rw [w40]) | (simp only [i64_w]; rw [w40]), ⟨by (repeat (first | with_reducible refine Sorted.drewN ?_ _ | with_reducible refine Sorted.drew ?_)); exact HS.out⟩⟩
    · go_wp2_with (go_at_call 133; refine (ins133b (show Kd.N (Kd.slice 3 (Kd.int .i64)) 22 _ base ok (.slice (some ⟨blk, 0, none⟩) n cap) _ by (repeat (first | with_reducible refine Kd.N_drewN ?_ _ | with_reducible refine Kd.N_drew ?_)); exact HS.out.1) (by have := HN.out; omega) n (Or.inr rfl) _ _ ?hx ?hy).mono ?_; (case hx => first | rfl | (have := HN.out; omega)); (case hy => first | rfl | (have := HN.out; omega)); rintro e w9 ⟨rfl, hs⟩; rw [if_neg (by have := HN.out; omega)] at hs; have n0_ := Aside0.mk (Sorted.trans (show Sorted w0 base ok blk n cap _ _ by (repeat (first | with_reducible refine Sorted.drewN ?_ _ | with_reducible refine Sorted.drew ?_)); exact HS.out) hs); clear HS hs; have HS := n0_; clear n0_)
      go_loopg [6] 0 (fun kq v6 w' => v6 = .int .i64 20 ∧ Aside0 (Sorted w0 base ok blk n cap (srtL (n - 1) 1 xs) w'))
      case atStart => exact ⟨rfl, ⟨by (repeat (first | with_reducible refine Sorted.drewN ?_ _ | with_reducible refine Sorted.drew ?_)); exact HS.out⟩⟩
      case round =>
        clear HS
        obtain ⟨rfl, HS⟩ := hrel
        go_wp2
        go_end0
        exact ⟨rfl, by (repeat (first | with_reducible refine Sorted.drewN ?_ _ | with_reducible refine Sorted.drew ?_)); exact HS.out⟩
set_option maxHeartbeats 4000000 in
set_option maxRecDepth 100000 in
theorem stable129_0 (A : Option Addr) (c : Nat) (w : World) : Calls Try.prog 129 #[.slice A 0 c, .int .i64 0, .func (.func 118) #[] #[]] w fun e w' => e = .returned (.tuple #[]) ∧ Drawn0 w w' := by
  go_enter Try.func129, Try.ntmps129
  go_wp2
  go_loopg [7, 8] 0 (fun kq v7 v8 w' => v7 = .int .i64 0 ∧ v8 = .int .i64 20 ∧ Drawn0 w w')
  case atStart => exact ⟨rfl, rfl, by repeat (first | exact Drawn0.refl _ | apply Drawn0.step)⟩
  case round =>
    obtain ⟨rfl, rfl, ⟨m1, rfl⟩⟩ := hrel
    go_wp2_with (go_at_call 133; refine (ins133_0 A c _).mono ?_; rintro e w9 ⟨rfl, ⟨nd, rfl⟩⟩)
    go_loopg [6] 0 (fun kq v6 w' => v6 = .int .i64 20 ∧ Drawn0 w w')
    case atStart => exact ⟨rfl, by repeat (first | exact Drawn0.refl _ | exact ⟨_, rfl⟩ | exact ⟨_, World.drewN_drewN _ _ _⟩ | apply Drawn0.step)⟩
    case round =>
      obtain ⟨rfl, ⟨m2, rfl⟩⟩ := hrel
      go_wp2
      go_end0
      exact ⟨rfl, by repeat (first | exact Drawn0.refl _ | exact ⟨_, rfl⟩ | apply Drawn0.step)⟩
set_option maxHeartbeats 4000000 in
set_option maxRecDepth 100000 in
theorem sort117 (h : Kd.N (Kd.slice 3 (Kd.int .i64)) 22 w0 base ok (.slice (some ⟨blk, 0, none⟩) n cap) xs) (hn : n ≤ 20) :
    Calls Try.prog 117 #[.slice (some ⟨blk, 0, none⟩) n cap, .func (.func 118) #[] #[]] w0 fun e w' => e = .returned (.tuple #[]) ∧ Sorted w0 base ok blk n cap (srtL (n - 1) 1 xs) w' := by
  have hS : Calls Try.prog 129 #[.slice (some ⟨blk, 0, none⟩) n cap, .int .i64 (n : Int), .func (.func 118) #[] #[]] w0 fun e w' => e = .returned (.tuple #[]) ∧ Sorted w0 base ok blk n cap (srtL (n - 1) 1 xs) w' := by
    by_cases h20 : n < 20
    · exact stable129_lt h h20
    · exact stable129_20 h (by omega)
  have HS := Aside0.mk hS
  clear hS
  go_enter Try.func117, Try.ntmps117
  go_wp2_with (go_at_call 129; refine HS.out.mono ?_; rintro e w9 ⟨rfl, hs⟩)
  go_end0
  exact ⟨rfl, hs⟩
set_option maxHeartbeats 4000000 in
set_option maxRecDepth 100000 in
theorem sort117_0 (A : Option Addr) (c : Nat) (w : World) : Calls Try.prog 117 #[.slice A 0 c, .func (.func 118) #[] #[]] w fun e w' => e = .returned (.tuple #[]) ∧ Drawn0 w w' := by
  go_enter Try.func117, Try.ntmps117
  go_wp2_with (go_at_call 129; refine (stable129_0 A c _).mono ?_; rintro e w9 ⟨rfl, ⟨nd, rfl⟩⟩)
  go_end0
  exact ⟨rfl, by repeat (first | exact Drawn0.refl _ | exact ⟨_, rfl⟩ | apply Drawn0.step)⟩
end
def stepI (F : List Int → List (List Int)) (p row : List Int) (j : Nat) : List (List Int) :=
  if rd row (j : Int) = 0 ∨ (j : Int) < rd p 0 then [] else if (j : Int) = rd p 0 then [p] else if (j : Int) ∈ p then [] else F (p ++ [(j : Int)])
def rowI (F : List Int → List (List Int)) (p row : List Int) : Nat → Nat → List (List Int)
  | 0, _ => []
  | e + 1, j => stepI F p row j ++ rowI F p row e (j + 1)
def lastI (p : List Int) : Int := rd p ((p.length - 1 : Nat) : Int)
def walkI (d : List (List Int)) : Nat → List Int → List (List Int)
  | 0, _ => []
  | m + 1, p => rowI (walkI d m) p (d.getD (lastI p).toNat []) (d.getD (lastI p).toNat []).length 0
structure St (w0 : World) (gB gO gW : Nat) (AC : Option Addr) (nC cC : Nat) (AD : Option Addr) (nD cD : Nat) (vo : Value) (xs : List (List Int)) (w : World) : Prop where
  hB : Below w0.heap.size w0 w
  bB : w.heap[gB]? = some (.cells #[.slice AC nC cC, .slice AD nD cD] 25 (0, 0))
  bO : w.heap[gO]? = some (.cells #[vo] 23 (0, 0))
  bW : w.heap[gW]? = some (.cells #[.func (.func 115) #[] #[.pointer (some ⟨gB, 0, none⟩), .pointer (some ⟨gO, 0, none⟩), .pointer (some ⟨gW, 0, none⟩)]] 115 (0, 0))
  hN : Kd.N (Kd.slice 3 (Kd.int .i64)) 22 w w0.heap.size (fun k => w0.heap.size ≤ k ∧ k ≠ gO) vo xs
def Kp (gO : Nat) (w : World) (vo : Value) (w' : World) (vo' : Value) : Prop :=
  w.heap.size ≤ w'.heap.size ∧ (∀ k, k < w.heap.size → k ≠ gO → some k ≠ vo.ownBlock → w'.heap[k]? = w.heap[k]?) ∧ (vo'.ownBlock = vo.ownBlock ∨ ∃ b, vo'.ownBlock = some b ∧ w.heap.size ≤ b)
section
variable {w0 w w1 w2 : World} {gB gO gW : Nat} {AC AD : Option Addr} {nC cC nD cD : Nat} {vo v1 v2 : Value} {xs : List (List Int)}
theorem Kp.refl : Kp gO w vo w vo := ⟨Nat.le_refl _, fun _ _ _ _ => rfl, .inl rfl⟩
theorem Kp.trans (h : Kp gO w vo w1 v1) (k : Kp gO w1 v1 w2 v2) : Kp gO w vo w2 v2 := by
  refine ⟨Nat.le_trans h.1 k.1, fun i hi hg ho => ?_, ?_⟩
  · refine (k.2.1 i (Nat.lt_of_lt_of_le hi h.1) hg (fun e => ?_)).trans (h.2.1 i hi hg ho)
    rcases h.2.2 with e1 | ⟨b, e1, hb⟩
    · exact ho (e.trans e1)
    · rw [e1] at e; injection e with e; omega
  · rcases k.2.2 with e1 | ⟨b, e1, hb⟩
    · rw [e1]; exact h.2.2
    · exact .inr ⟨b, e1, Nat.le_trans h.1 hb⟩
theorem Kp.below (h : Below w.heap.size w w1) : Kp gO w vo w1 vo := ⟨h.size, fun k hk _ _ => h.block k hk, .inl rfl⟩
theorem St.below (h : St w0 gB gO gW AC nC cC AD nD cD vo xs w) (hb : Below w.heap.size w w1) : St w0 gB gO gW AC nC cC AD nD cD vo xs w1 :=
  ⟨below_step h.hB hb, blk_below h.bB hb, blk_below h.bO hb, blk_below h.bW hb, Kd.N_below h.hN hb⟩
theorem St.drewN (h : St w0 gB gO gW AC nC cC AD nD cD vo xs w) (n : Nat) : St w0 gB gO gW AC nC cC AD nD cD vo xs (w.drewN n) := h.below (pw_below_drewN (Below.refl _ _) n)
theorem St.drew (h : St w0 gB gO gW AC nC cC AD nD cD vo xs w) : St w0 gB gO gW AC nC cC AD nD cD vo xs w.drew := h.below (below_drew (Below.refl _ _))
def Pa (gO : Nat) (w : World) (vo : Value) (A : Option Addr) (p : List Int) : Prop := Kd.F (Kd.int .i64) w (fun k => k ≠ gO ∧ some k ≠ vo.ownBlock) A p.length p
theorem Pa.kp {A : Option Addr} {p : List Int} (h : Pa gO w vo A p) (k : Kp gO w vo w1 v1) : Pa gO w1 v1 A p := by
  refine Kd.F_mono (Kd.F_step (Kd.F_bound h) (fun i hi hlt => k.2.1 i hlt hi.1.1 hi.1.2)) (fun i hi => ⟨hi.1.1, fun e => ?_⟩)
  rcases k.2.2 with e1 | ⟨b, e1, hb⟩
  · exact hi.1.2 (e.trans e1)
  · rw [e1] at e; injection e with e; have := hi.2; omega
end
theorem rows_at {w : World} {A : Option Addr} {n : Nat} {xs : List (List Int)} (h : Kd.C (Kd.slice 3 (Kd.int .i64)) w A n xs) (j : Nat) (hj : j < n) :
    ∃ ad A0 c0, A = some ad ∧ w.cell? (ad.add j) = some (.slice A0 (xs.getD j []).length c0) ∧ (xs.getD j []).length ≤ c0 ∧ (Kd.int .i64).C w A0 (xs.getD j []).length (xs.getD j []) := by
  obtain ⟨ad, c, rfl, hcl, ⟨A0, c0, rfl, hl, hC⟩, hcc⟩ := Kd.C_get h [] (j : Int) (by omega) (by omega)
  refine ⟨ad, A0, c0, rfl, ?_, hl, hC⟩
  have := hcc 0 _ rfl
  have hs : (Kd.slice 3 (Kd.int .i64)).sz = 1 := rfl
  rw [hs] at this
  simpa using this
theorem pigeon : ∀ (n : Nat) (p : List Int), p.Nodup → (∀ x ∈ p, 0 ≤ x ∧ x < (n : Int)) → p.length ≤ n
  | 0, p, _, h => by
    cases p with
    | nil => simp
    | cons a r => have := h a List.mem_cons_self; omega
  | n + 1, p, hd, h => by
    by_cases hm : (n : Int) ∈ p
    · have h1 := pigeon n (p.erase (n : Int)) (hd.erase _) (fun x hx => by
        have h2 := h x (List.mem_of_mem_erase hx)
        have h3 : x ≠ (n : Int) := (List.Nodup.mem_erase_iff hd).1 hx |>.1
        omega)
      have h2 := List.length_erase_of_mem hm
      omega
    · have h1 := pigeon n p hd (fun x hx => by
        have h2 := h x hx
        have h3 : x ≠ (n : Int) := fun e => hm (e ▸ hx)
        omega)
      omega
theorem rd_mem' {p : List Int} {i : Nat} (h : i < p.length) : rd p (i : Int) ∈ p := by
  have : rd p (i : Int) = p[i] := by simp [rd, List.getD_eq_getElem?_getD, List.getElem?_eq_getElem h]
  rw [this]; exact List.getElem_mem h
theorem Kp.drewN {gO : Nat} {w w1 : World} {vo v1 : Value} (h : Kp gO w vo w1 v1) (n : Nat) : Kp gO w vo (w1.drewN n) v1 := h.trans (Kp.below (pw_below_drewN (Below.refl _ _) n))
theorem Kp.drew {gO : Nat} {w w1 : World} {vo v1 : Value} (h : Kp gO w vo w1 v1) : Kp gO w vo w1.drew v1 := h.trans (Kp.below (below_drew (Below.refl _ _)))
theorem contains_ev (p : List Int) (x : Int) (hp : p.length ≤ 4611686018427387904) : ∃ k, slices_Contains_int_int.f k p x = some (decide (x ∈ p)) := by
  have key : ∀ (e i k : Nat), p.length - i = e → i ≤ p.length → e < k → (∀ i' : Nat, i' < i → rd p (i' : Int) ≠ x) → ∃ q, slices_Index_int_int.l0 k p x (p.length : Int) (i : Int) = some q ∧ (decide (q ≥ 0) = decide (x ∈ p)) := by
    intro e
    induction e with
    | zero =>
      intro i k he hi hk hno
      obtain ⟨k, rfl⟩ : ∃ m, k = m + 1 := ⟨k - 1, by omega⟩
      refine ⟨-1, by simp only [slices_Index_int_int.l0]; rw [if_neg (by omega)], ?_⟩
      have : x ∉ p := fun hm => by
        obtain ⟨q, hq, e⟩ := List.mem_iff_getElem.mp hm
        exact hno q (by omega) (by simp [rd, List.getD_eq_getElem?_getD, List.getElem?_eq_getElem hq, e])
      rw [decide_eq_false this]; rfl
    | succ e ih =>
      intro i k he hi hk hno
      obtain ⟨k, rfl⟩ : ∃ m, k = m + 1 := ⟨k - 1, by omega⟩
      have hw : wrap64 ((i : Int) + 1) = ((i + 1 : Nat) : Int) := by unfold wrap64; omega
      by_cases h : x = rd p (i : Int)
      · refine ⟨(i : Int), by simp only [slices_Index_int_int.l0]; rw [if_pos (by omega), if_pos (by omega), if_pos (by omega), if_pos h], ?_⟩
        rw [decide_eq_true (show x ∈ p from h ▸ rd_mem' (by omega))]
        exact decide_eq_true (by omega)
      · obtain ⟨q, h1, h2⟩ := ih (i + 1) k (by omega) (by omega) (by omega) (fun i' hi' => by
          by_cases e' : i' = i
          · subst e'; exact fun z => h z.symm
          · exact hno i' (by omega))
        exact ⟨q, by simp only [slices_Index_int_int.l0]; rw [if_pos (by omega), if_pos (by omega), if_pos (by omega), if_neg h, hw]; exact h1, h2⟩
  obtain ⟨q, h1, h2⟩ := key p.length 0 (p.length + 1) (by omega) (by omega) (by omega) (fun i' hi' => by omega)
  refine ⟨p.length + 1, ?_⟩
  unfold slices_Contains_int_int.f slices_Index_int_int.f
  rw [show ((0 : Nat) : Int) = 0 from rfl] at h1
  rw [h1, Option.bind_some, h2]
theorem after_put {w0 wz W w4 : World} {gB gO gW : Nat} {AC AD : Option Addr} {nC cC nD cD : Nat} {v v4 : Value} {ys zs : List (List Int)} (nBO : gB ≠ gO) (nWO : gW ≠ gO) (gO0 : w0.heap.size ≤ gO) (SZ : St w0 gB gO gW AC nC cC AD nD cD v ys wz) (BZ : Below wz.heap.size wz W) (hb : Below w0.heap.size w0 w4) (hg : W.grownBy w4 v.ownBlock) (hat : v4.ownBlock = v.ownBlock ∨ ∃ b, v4.ownBlock = some b ∧ W.heap.size ≤ b) (hN : Kd.N (Kd.slice 3 (Kd.int .i64)) 22 w4 w0.heap.size (fun k => w0.heap.size ≤ k ∧ k ≠ gO) v4 zs) :
    w4.heap[gO]? = some (.cells #[v] 23 (0, 0)) ∧ St w0 gB gO gW AC nC cC AD nD cD v4 zs (w4.setCell ⟨gO, 0, none⟩ v4) ∧ Kp gO wz v (w4.setCell ⟨gO, 0, none⟩ v4) v4 := by
  have hNW := Kd.N_below SZ.hN BZ
  have bO := blk_grown (blk_below SZ.bO BZ) hg (Kd.N_ne hNW (blk_below SZ.bO BZ) (by decide))
  have bB := blk_grown (blk_below SZ.bB BZ) hg (Kd.N_ne hNW (blk_below SZ.bB BZ) (by decide))
  have bW := blk_grown (blk_below SZ.bW BZ) hg (Kd.N_ne hNW (blk_below SZ.bW BZ) (by decide))
  refine ⟨bO, ⟨below_set hb gO0, blk_far bB nBO _, blk_put bO 0 _ rfl, blk_far bW nWO _, Kd.N_far hN (fun _ hk => hk.2) v4⟩, ?_, fun k hk hgo hown => ?_, ?_⟩
  · rw [World.size_setCell]; exact Nat.le_trans BZ.size hg.size
  · refine (Below.heap_setCell w4 ⟨gO, 0, none⟩ v4 k hgo).trans ((hg.block k (Nat.lt_of_lt_of_le hk BZ.size) hown).trans (BZ.block k hk))
  · rcases hat with h | ⟨b, h1, h2⟩
    · exact .inl h
    · exact .inr ⟨b, h1, Nat.le_trans BZ.size h2⟩
def T6 : Bool × List (List Nat × List Nat) := (true, [([], []), ([], []), ([], []), ([1, 2], [1, 2]), ([3], [3]), ([0, 4, 3], [0, 4]), ([5, 5, 0, 1, 2, 3, 4, 5], [5])])
def B6 : List Nat := [0, 0, 0, 6, 14, 31, 63]
theorem tab6 : rtab .any (opsOf Try.f115 6) = T6 := by kernel_rfl
theorem bits6 : waitsOk T6.2 B6 = true := by kernel_rfl
def T8 : Bool × List (List Nat × List Nat) := (true, [([], []), ([], []), ([], []), ([1, 2], [1, 2]), ([], []), ([4], [4]), ([3, 5, 3], [3, 5]), ([0, 6, 6], [0, 6])])
def B8 : List Nat := [0, 0, 0, 6, 0, 16, 62, 127]
theorem tab8 : rtab .any (opsOf Try.f115 8) = T8 := by kernel_rfl
theorem bits8 : waitsOk T8.2 B8 = true := by kernel_rfl
theorem step_len (F : List Int → List (List Int)) (B : Nat) (hB : 1 ≤ B) (hF : ∀ q, (F q).length ≤ B) (p row : List Int) (j : Nat) : (stepI F p row j).length ≤ B := by
  unfold stepI
  split
  · exact Nat.zero_le _
  · split
    · exact hB
    · split
      · exact Nat.zero_le _
      · exact hF _
theorem row_len (F : List Int → List (List Int)) (B : Nat) (hB : 1 ≤ B) (hF : ∀ q, (F q).length ≤ B) (p row : List Int) : ∀ (e j : Nat), (rowI F p row e j).length ≤ e * B
  | 0, _ => Nat.zero_le _
  | e + 1, j => by
    rw [rowI, List.length_append, Nat.succ_mul]
    have h1 := step_len F B hB hF p row j
    have h2 := row_len F B hB hF p row e (j + 1)
    omega
theorem walk_len {d : List (List Int)} (sq : ∀ i, i < d.length → (d.getD i []).length = d.length) (h4 : d.length ≤ 4) : ∀ (m : Nat) (p : List Int), (walkI d m p).length ≤ 5 ^ m
  | 0, _ => Nat.zero_le _
  | m + 1, p => by
    rw [walkI]
    have h1 := row_len (walkI d m) (5 ^ m) (Nat.one_le_pow _ _ (by omega)) (walk_len sq h4 m) p (d.getD (lastI p).toNat []) (d.getD (lastI p).toNat []).length 0
    have h2 : (d.getD (lastI p).toNat []).length ≤ 4 := by
      by_cases h : (lastI p).toNat < d.length
      · rw [sq _ h]; exact h4
      · rw [List.getD_eq_getElem?_getD, List.getElem?_eq_none (by omega)]; simp
    have h3 : (d.getD (lastI p).toNat []).length * 5 ^ m ≤ 4 * 5 ^ m := Nat.mul_le_mul_right _ h2
    rw [Nat.pow_succ]
    omega
set_option maxHeartbeats 8000000 in
set_option maxRecDepth 100000 in
theorem walk {w0 : World} {gB gO gW : Nat} {AC AD : Option Addr} {nC cC cD : Nat} {d : List (List Int)} (hD : Kd.C (Kd.slice 3 (Kd.int .i64)) w0 AD d.length d) (sq : ∀ i, i < d.length → (d.getD i []).length = d.length) (h4 : d.length ≤ 4)
    (nBO : gB ≠ gO) (nOB : gO ≠ gB) (nWO : gW ≠ gO) (nOW : gO ≠ gW) (nBW : gB ≠ gW) (nWB : gW ≠ gB) (gO0 : w0.heap.size ≤ gO) : ∀ (m : Nat) (p : List Int), 0 < p.length → (∀ x ∈ p, 0 ≤ x ∧ x < (d.length : Int)) → p.Nodup → d.length < m + p.length →
    ∀ (A : Option Addr) (cP : Nat) (w : World) (vo : Value) (xs : List (List Int)), p.length ≤ cP → xs.length + 5 ^ m ≤ 1000000 → St w0 gB gO gW AC nC cC AD d.length cD vo xs w → Pa gO w vo A p →
    Calls Try.prog 115 #[.slice A p.length cP, .pointer (some ⟨gB, 0, none⟩), .pointer (some ⟨gO, 0, none⟩), .pointer (some ⟨gW, 0, none⟩)] w fun e w' => e = .returned (.tuple #[]) ∧ ∃ v', St w0 gB gO gW AC nC cC AD d.length cD v' (xs ++ walkI d m p) w' ∧ Kp gO w vo w' v'
  | 0, p, hp, hr, hnd, hm, _, _, _, _, _, _, _, _, _ => by have := pigeon d.length p hnd hr; omega
  | m + 1, p, hp, hr, hnd, hm, A, cP, w, vo, xs, hcP, hbd, hS, hP => by
    have HS := Aside0.mk hS
    have HP := Aside0.mk hP
    have hpl := pigeon d.length p hnd hr
    have hla := hr _ (rd_mem' (show p.length - 1 < p.length by omega))
    have hhd := hr _ (rd_mem' (show 0 < p.length from hp))
    obtain ⟨L, hL⟩ := Int.eq_ofNat_of_zero_le hla.1
    have hLd : L < d.length := by omega
    have hlL : (lastI p).toNat = L := by unfold lastI; rw [hL]; rfl
    obtain ⟨adD, B0, b0, eD, hx, hb0, hrow⟩ := rows_at hD L hLd
    subst eD
    have hsq := sq L hLd
    have h5p : 1 ≤ 5 ^ m := Nat.one_le_pow _ _ (by omega)
    have HR := Aside0.mk (show walkI d (m + 1) p = rowI (walkI d m) p (d.getD L []) (d.getD L []).length 0 by rw [walkI, hlL])
    have HROW := Aside0.mk hrow
    generalize d.getD L [] = row at hx hb0 HROW hsq HR
    clear hrow
    obtain ⟨adP, eA, hx0⟩ := Kd.at_int (Foot.now hP) 0 (by omega) (by omega)
    subst eA
    obtain ⟨adP', eA', hx1⟩ := Kd.at_int (Foot.now hP) ((p.length - 1 : Nat) : Int) (by omega) (by omega)
    cases eA'
    have hxw := (HS.out.hB.cell (World.block_lt_of_cell? w0 _ hx)).trans hx
    have hw1 : wrap64 ((p.length : Int) - 1) = ((p.length - 1 : Nat) : Int) := by unfold wrap64; omega
    have q0 : (0 ≤ ((p.length - 1 : Nat) : Int)) = True := eq_true (by omega)
    have q1 : (((p.length - 1 : Nat) : Int) < (p.length : Int)) = True := eq_true (by omega)
    rw [hL] at hx1
    have q2 : (0 ≤ (L : Int)) = True := eq_true (by omega)
    have q3 : ((L : Int) < (d.length : Int)) = True := eq_true (by omega)
    have hz0 : w.cell? ⟨gB, 1, none⟩ = some (.slice (some adD) d.length cD) := (blk_cell HS.out.bB 1).trans rfl
    have hxw' : w.cell? (adD.add L) = some (.slice B0 row.length b0) := hxw
    rw [Int.toNat_natCast] at hx1
    have HX0 := Aside0.mk hx0
    have HSQ := Aside0.mk hsq
    clear hS hP hx hxw hx0 hsq
    go_enter Try.func115, Try.ntmps115
    go_wp2
    go_loopg [20] (row.length) (fun kq v20 w' => ∃ (j : Nat) (v : Value) (ys : List (List Int)), kq + j = row.length ∧ v20 = .int .i64 j ∧ Aside0 (St w0 gB gO gW AC nC cC (some adD) d.length cD v ys w') ∧ Aside0 (Kp gO w vo w' v) ∧ Aside0 (ys ++ rowI (walkI d m) p row kq j = xs ++ walkI d (m + 1) p) ∧ Aside0 (ys.length + kq * 5 ^ m ≤ 1000000))
    case atStart => exact ⟨0, vo, xs, by omega, rfl, ⟨by (repeat (first | with_reducible refine St.drewN ?_ _ | with_reducible refine St.drew ?_)); exact HS.out⟩, ⟨Kp.below (by repeat (first | (with_reducible first | exact Below.refl _ _ | apply below_alloc | apply pw_below_drewN | apply below_drew1) | exact Below.refl _ _))⟩, ⟨by rw [HR.out]⟩, ⟨by have z := HSQ.out; have y : row.length * 5 ^ m ≤ 4 * 5 ^ m := Nat.mul_le_mul_right _ (by omega); rw [Nat.pow_succ] at hbd; omega⟩⟩
    case round =>
      clear HS
      obtain ⟨j, v, ys, hj, rfl, SS, KK, HE, HBd⟩ := hrel
      have HPw := Aside0.mk (HP.out.kp KK.out)
      by_cases hlt : j < row.length
      · obtain ⟨k1, rfl⟩ : ∃ k1, gk = k1 + 1 := ⟨gk - 1, by omega⟩
        have HC := Aside0.mk (Foot.now HPw.out)
        have HWJ : Aside0 (wrap64 ((j : Int) + 1) = ((j + 1 : Nat) : Int)) := ⟨by have := HSQ.out; unfold wrap64; omega⟩
        obtain ⟨adR, eR, hrw⟩ := Kd.at_int HROW.out (j : Int) (by omega) (by omega)
        subst eR
        obtain ⟨adP2, eP, hp0⟩ := Kd.at_int HC.out 0 (by omega) (by omega)
        cases eP
        have hrw2 := (SS.out.hB.cell (World.block_lt_of_cell? w0 _ hrw)).trans hrw
        rw [Int.toNat_natCast] at hrw2
        have hp1 : wr.cell? adP = some (.int .i64 (rd p 0)) := by simpa [Addr.add] using hp0
        clear hp0
        have p5 : (0 ≤ (j : Int)) = True := eq_true (by omega)
        have q5 : ((j : Int) < (row.length : Int)) = True := eq_true (by omega)
        have q6 : ((0 : Int) < (p.length : Int)) = True := eq_true (by omega)
        have c3b0 : decide ((j : Int) < (row.length : Int)) = true := decide_eq_true (by omega)
        clear hrw
        have HG := Aside0.mk (show stepI (walkI d m) p row j = if rd row (j : Int) = 0 ∨ (j : Int) < rd p 0 then [] else if (j : Int) = rd p 0 then [p] else if (j : Int) ∈ p then [] else walkI d m (p ++ [(j : Int)]) from rfl)
        generalize rd row (j : Int) = t at hrw2 HG
        obtain ⟨hv, hhv⟩ : ∃ hv, rd p 0 = hv := ⟨_, rfl⟩
        rw [hhv] at hp1 HG
        have HHV := Aside0.mk hhv
        clear hhv
        by_cases ht0 : t = 0
        · have c1 : (t == 0) = true := beq_iff_eq.mpr ht0
          have HNIL : Aside0 (stepI (walkI d m) p row j = []) := ⟨by rw [HG.out, if_pos (.inl ht0)]⟩
          clear HG ht0
          go_wp2
          go_roundg k1
          case measure => omega
          case rel => exact ⟨j + 1, v, ys, by omega, (by first | rw [HWJ.out] | go_num), ⟨by (repeat (first | with_reducible refine St.drewN ?_ _ | with_reducible refine St.drew ?_)); exact SS.out⟩, ⟨by (repeat (first | with_reducible refine Kp.drewN ?_ _ | with_reducible refine Kp.drew ?_)); exact KK.out⟩, ⟨by have := HE.out; rw [rowI, HNIL.out, List.nil_append] at this; exact this⟩, ⟨by have := HBd.out; rw [Nat.succ_mul] at this; omega⟩⟩
        have c1 : (t == 0) = false := beq_eq_false_iff_ne.mpr ht0
        by_cases hlo : (j : Int) < hv
        · have c2 : decide ((j : Int) < hv) = true := decide_eq_true hlo
          have HNIL : Aside0 (stepI (walkI d m) p row j = []) := ⟨by rw [HG.out, if_pos (.inr hlo)]⟩
          clear HG ht0 hlo
          go_wp2
          go_roundg k1
          case measure => omega
          case rel => exact ⟨j + 1, v, ys, by omega, (by first | rw [HWJ.out] | go_num), ⟨by (repeat (first | with_reducible refine St.drewN ?_ _ | with_reducible refine St.drew ?_)); exact SS.out⟩, ⟨by (repeat (first | with_reducible refine Kp.drewN ?_ _ | with_reducible refine Kp.drew ?_)); exact KK.out⟩, ⟨by have := HE.out; rw [rowI, HNIL.out, List.nil_append] at this; exact this⟩, ⟨by have := HBd.out; rw [Nat.succ_mul] at this; omega⟩⟩
        have c2 : decide ((j : Int) < hv) = false := decide_eq_false hlo
        by_cases heq : (j : Int) = hv
        · have c4 : ((j : Int) == hv) = true := beq_iff_eq.mpr heq
          have HONE : Aside0 (stepI (walkI d m) p row j = [p]) := ⟨by rw [HG.out, if_neg (fun z => z.elim ht0 hlo), if_pos heq]⟩
          clear HG ht0 hlo heq
          go_upto_region 6 with fail
          try go_wp2
          have SZ := Aside0.mk (St.drew SS.out)
          have KZ := Aside0.mk (Kp.drew KK.out)
          have PZ := Aside0.mk (Pa.kp HPw.out (Kp.drew Kp.refl))
          have BZ := Aside0.mk (Below.refl wr.drew.heap.size wr.drew)
          refine start_ (n := 7) (S := fun w' => w'.cell? ⟨gO, 0, none⟩ = some v) (ds := [6]) #[false, false, false, false, false, false, false] (by kernel_rfl) rfl rfl ((blk_cell SZ.out.bO 0).trans rfl) (fun hHeld => ?_); refine with_tabW tab6 bits6 (fun HT_ HW_ => ?_)
          clear SS KK HPw HC hrw2 hp1
          generalize wr.drew = wz at SZ KZ PZ BZ hHeld ⊢
          refine pure_ (i := 2) (N := some 43) (v := ?_) (a' := ?_) #[false, false, true, false, false, false, false] rfl rfl (any_of HT_.out (by kernel_rfl)) (fun _ _ _ h => h) (Or.inl ⟨by rfl, ?_⟩) ?_ ?_
          rotate_left
          · intro w'
            go_simp
            with_reducible rfl
          rotate_left
          · simp only [Act.put, List.setIfInBounds_toArray, List.set_cons_zero, List.set_cons_succ, i64_w, i32_w]
            rfl
          refine take_ (i := 0) (N := some 41) (v := ?_) (a' := ?_) #[true, false, true, false, false, false, false] rfl rfl (take_ofW HT_.out HW_.out (by kernel_rfl)) (fun _ _ _ h => h) (Or.inl ⟨by rfl, ?_⟩) hHeld ?_ ?_
          rotate_left
          · rintro w' s0
            go_simp
            with_reducible rfl
          rotate_left
          · simp only [Act.put, List.setIfInBounds_toArray, List.set_cons_zero, List.set_cons_succ, i64_w, i32_w]
            rfl
          refine one_ (i := 1) (N := some 42) #[true, true, true, false, false, false, false] rfl rfl (one_of HT_.out (by kernel_rfl)) (by decide) (fun K hK => ?_)
          refine Kd.R_lit_step (Kd.int .i64) _ 3 ?hg (N := 42) ?hd (xs := ([] : List Int)) (inner := []) (ok := fun _ => True) (okp := fun _ => True) ?hr ?hp (fun _ hk => hk) trivial (Below.refl _ _) (Nat.le_refl _) (by simp) ?_
          (case hd => rfl)
          (case hg => rfl)
          (case hr => first | (go_simp; done) | (go_simp; rfl))
          (case hp => exact (Reps.none _ _))
          intro v42 wa ho hb hg_ hnew_
          clear hg_ hnew_
          have HO1 := Aside0.mk (Kd.R_lower ho BZ.out.size)
          have n0_ := Aside0.mk (below_step BZ.out hb)
          clear BZ hb ho
          have BZ := n0_
          clear n0_
          refine hK.out _ _ ((blk_cell (blk_below SZ.out.bO BZ.out) 0).trans rfl) (fun hHeld => ?_)
          clear hK K
          refine norm_ (a' := ?_) ?_ ?_
          rotate_left
          · show Act.put _ (some 42) _ = _
            simp only [Act.put, List.setIfInBounds_toArray, List.set_cons_zero, List.set_cons_succ, i64_w, i32_w]
            rfl
          refine one_ (i := 3) (N := some 44) #[true, true, true, true, false, false, false] rfl rfl (one_of HT_.out (by kernel_rfl)) (by decide) (fun K hK => ?_)
          refine Kd.R_append_rows_step (Kd.int .i64) (w0 := wz) wz.heap.size (by rfl) (.tmp 42) (.tmp 43) 22 3 (.int .i64 0) 8 rfl Try.underlying22 info3 rfl (by decide) (by omega) v42 [] p _ _ _ (fun _ => True) (fun _ => False) rfl rfl ?aO ?aR (fun _ _ h => h) (fun _ h => h.elim) ?aF ?aB ?aS ?aL ?_
          (case aR => exact (Foot.now (Kd.F_below PZ.out BZ.out)))
          (case aB => exact BZ.out)
          (case aF => exact fun _ _ => trivial)
          (case aO => exact HO1.out)
          (case aS => exact BZ.out.size)
          (case aL => simp; omega)
          intro v44 wb ho hb hg hat
          rw [List.nil_append] at ho
          have HO2 := Aside0.mk ho
          clear BZ HO1
          have BZ := Aside0.mk hb
          clear ho hb hg hat
          obtain ⟨Ao, co, eo⟩ := Kd.R_slice HO2.out
          subst eo
          refine hK.out _ _ ((blk_cell (blk_below SZ.out.bO BZ.out) 0).trans rfl) (fun hHeld => ?_)
          clear hK K
          refine norm_ (a' := ?_) ?_ ?_
          rotate_left
          · show Act.put _ (some 44) _ = _
            simp only [Act.put, List.setIfInBounds_toArray, List.set_cons_zero, List.set_cons_succ, i64_w, i32_w]
            rfl
          refine one_ (i := 4) (N := some 45) #[true, true, true, true, true, false, false] rfl rfl (one_of HT_.out (by kernel_rfl)) (by decide) (fun K hK => ?_)
          have HF : Aside0 (Kd.F (Kd.int .i64) wb (fun k => wz.heap.size ≤ k) Ao p.length p) := ⟨Kd.R_F (Kd.R_mono (Kd.R_bound HO2.out) (fun _ hk => hk.2.1))⟩
          refine Kd.N_lit_step (Kd.slice 3 (Kd.int .i64)) (w0 := wz) wz.heap.size 22 ?hg (N' := 45) ?hd (xs := [p]) (inner := [.slice Ao p.length co]) (ok := fun k => wz.heap.size ≤ k) (okp := fun k => wz.heap.size ≤ k) ?hr ?hp (fun _ hk => hk) BZ.out.size BZ.out BZ.out.size (by simp) ?_
          (case hd => rfl)
          (case hg => rfl)
          (case hr => first | (go_simp; done) | (go_simp; rfl))
          (case hp => exact Reps.one (show Kd.FK (Kd.slice 3 (Kd.int .i64)) wb (fun k => wz.heap.size ≤ k) p [.slice Ao p.length co] from fun W' hW => ⟨Ao, co, rfl, (Kd.R_reads' HO2.out).2.1, HF.out W' hW⟩) (Reps.none _ _))
          intro v45 wc ho hb hg hat
          have HO3 := Aside0.mk ho
          clear BZ HO2 HF
          have BZ := Aside0.mk hb
          clear ho hb hg hat
          obtain ⟨A45, c45, e45⟩ := Kd.N_slice HO3.out
          subst e45
          refine hK.out _ _ ((blk_cell (blk_below SZ.out.bO BZ.out) 0).trans rfl) (fun hHeld => ?_)
          clear hK K
          refine norm_ (a' := ?_) ?_ ?_
          rotate_left
          · show Act.put _ (some 45) _ = _
            simp only [Act.put, List.setIfInBounds_toArray, List.set_cons_zero, List.set_cons_succ, i64_w, i32_w]
            rfl
          refine one_ (i := 5) (N := some 46) #[true, true, true, true, true, true, false] rfl rfl (one_of HT_.out (by kernel_rfl)) (by decide) (fun K hK => ?_)
          have hgw := (Array.getElem?_eq_some_iff.1 SZ.out.bO).1
          refine Kd.N_append_rows_step (Kd.slice 3 (Kd.int .i64)) (w0 := w0) w0.heap.size (by rfl) (.tmp 41) (.tmp 45) 23 22 (.slice none 0 0) 24 rfl Try.underlying23 info22 rfl (by decide) (by omega) v ys [p] _ _ _ (fun k => w0.heap.size ≤ k ∧ k ≠ gO) (fun k => (w0.heap.size ≤ k ∧ k ≠ gO) ∧ some k ≠ v.ownBlock) rfl rfl ?aO ?aR (fun _ hk => hk) ?aF ?aB ?aS ?aL ?_
          (case aO => exact Kd.N_below SZ.out.hN BZ.out)
          (case aR => exact Kd.F_mono (Kd.N_F HO3.out) (fun k hk => ⟨⟨Nat.le_trans SZ.out.hB.size hk, fun e => by omega⟩, fun e => by have := Kd.N_lt SZ.out.hN k e.symm; omega⟩))
          (case aF => exact fun k hk => ⟨Nat.le_trans SZ.out.hB.size (Nat.le_trans BZ.out.size hk), fun e => by have := BZ.out.size; omega⟩)
          (case aB => exact below_step SZ.out.hB BZ.out)
          (case aS => exact Nat.le_trans SZ.out.hB.size BZ.out.size)
          (case aL => have z := HBd.out; rw [Nat.succ_mul] at z; simp; omega)
          intro v46 wd ho hb hg hat
          obtain ⟨zs, hzs⟩ : ∃ zs, zs = ys ++ [p] := ⟨_, rfl⟩
          rw [← hzs] at ho
          have NZ := Aside0.mk hzs
          clear hzs
          obtain ⟨hbO, hS4, hK4⟩ := after_put nBO nWO gO0 SZ.out BZ.out hb hg hat ho
          have HBO := Aside0.mk hbO
          have HS4 := Aside0.mk hS4
          have HK4 := Aside0.mk hK4
          clear hbO hS4 hK4 ho hb hg hat
          refine hK.out _ _ ((blk_cell HBO.out 0).trans rfl) (fun hHeld => ?_)
          clear hK K
          refine norm_ (a' := ?_) ?_ ?_
          rotate_left
          · show Act.put _ (some 46) _ = _
            simp only [Act.put, List.setIfInBounds_toArray, List.set_cons_zero, List.set_cons_succ, i64_w, i32_w]
            rfl
          refine last_ (i := 6) (N := none) #[true, true, true, true, true, true, true] rfl rfl (by kernel_rfl) (by decide) (fun K hK => ?_)
          have hs46 : wd.cell? ⟨gO, 0, none⟩ = some v := (blk_cell HBO.out 0).trans rfl
          have hfs46 := blk_frozen HBO.out 0
          obtain ⟨A46, c46, e46⟩ := Kd.N_slice HS4.out.hN
          subst e46
          refine skip_ (w1 := ?_) (by rfl) rfl ?_ ?_
          rotate_left
          · go_simp
            rfl
          refine hK.out _ _ ?_
          clear hK K
          refine done_ (by kernel_rfl) ?_
          try go_wp2
          go_roundg k1
          case measure => omega
          case rel => exact ⟨j + 1, _, zs, by omega, (by first | rw [HWJ.out] | go_num), ⟨by (repeat (first | with_reducible refine St.drewN ?_ _ | with_reducible refine St.drew ?_)); exact HS4.out⟩, ⟨by (repeat (first | with_reducible refine Kp.drewN ?_ _ | with_reducible refine Kp.drew ?_)); exact Kp.trans KZ.out HK4.out⟩, ⟨by have z := HE.out; rw [rowI, HONE.out] at z; rw [NZ.out, List.append_assoc]; exact z⟩, ⟨by have z := HBd.out; rw [Nat.succ_mul] at z; rw [NZ.out, List.length_append, List.length_singleton]; omega⟩⟩
        have c4 : ((j : Int) == hv) = false := beq_eq_false_iff_ne.mpr heq
        obtain ⟨kc, hkc⟩ := contains_ev p (j : Int) (by omega)
        by_cases hin : (j : Int) ∈ p
        · have HNIL : Aside0 (stepI (walkI d m) p row j = []) := ⟨by rw [HG.out, if_neg (fun z => z.elim ht0 hlo), if_neg heq, if_pos hin]⟩
          rw [decide_eq_true hin] at hkc
          have HK := Aside0.mk hkc
          clear HG ht0 hlo heq hin hkc
          go_wp2_with (go_at_call 116; refine (slices_Contains_int_int.calls kc _ _ p (j : Int) true _ ?s1 hcP HK.out).mono ?_; (case s1 => repeat (first | exact HC.out | (with_reducible refine Kd.C_drewN ?_ _) | (with_reducible refine Kd.C_drew ?_))); rintro e w9 ⟨rfl, ⟨nd, rfl⟩⟩)
          go_roundg k1
          case measure => omega
          case rel => exact ⟨j + 1, v, ys, by omega, (by first | rw [HWJ.out] | go_num), ⟨by (repeat (first | with_reducible refine St.drewN ?_ _ | with_reducible refine St.drew ?_)); exact SS.out⟩, ⟨by (repeat (first | with_reducible refine Kp.drewN ?_ _ | with_reducible refine Kp.drew ?_)); exact KK.out⟩, ⟨by have := HE.out; rw [rowI, HNIL.out, List.nil_append] at this; exact this⟩, ⟨by have := HBd.out; rw [Nat.succ_mul] at this; omega⟩⟩
        have HREC : Aside0 (stepI (walkI d m) p row j = walkI d m (p ++ [(j : Int)])) := ⟨by rw [HG.out, if_neg (fun z => z.elim ht0 hlo), if_neg heq, if_neg hin]⟩
        rw [decide_eq_false hin] at hkc
        have HK := Aside0.mk hkc
        have hjh : hv < (j : Int) := by omega
        clear HG ht0 hlo heq hkc
        go_upto_region 8 with (go_at_call 116; refine (slices_Contains_int_int.calls kc _ _ p (j : Int) false _ ?s1 hcP HK.out).mono ?_; (case s1 => repeat (first | exact HC.out | (with_reducible refine Kd.C_drewN ?_ _) | (with_reducible refine Kd.C_drew ?_))); rintro e w9 ⟨rfl, ⟨nd, rfl⟩⟩)
        try go_wp2
        have SZ := Aside0.mk (St.drew (St.drewN SS.out nd))
        have KZ := Aside0.mk (Kp.drew (Kp.drewN KK.out nd))
        have PZ := Aside0.mk (Pa.kp HPw.out (Kp.drew (Kp.drewN Kp.refl nd)))
        have BZ := Aside0.mk (Below.refl (wr.drewN nd).drew.heap.size (wr.drewN nd).drew)
        have HLP := Aside0.mk (show p.length ≤ 4 by omega)
        have HIN := Aside0.mk hin
        clear hin
        refine start_ (n := 8) (S := fun w' => w'.cell? ⟨gW, 0, none⟩ = some (.func (.func 115) #[] #[.pointer (some ⟨gB, 0, none⟩), .pointer (some ⟨gO, 0, none⟩), .pointer (some ⟨gW, 0, none⟩)])) (ds := []) #[false, false, false, false, false, false, false, false] (by kernel_rfl) rfl rfl ((blk_cell SZ.out.bW 0).trans rfl) (fun hHeld => ?_); refine with_tabW tab8 bits8 (fun HT_ HW_ => ?_)
        clear SS KK HPw HC hrw2 hp1
        generalize (wr.drewN nd).drew = wz at SZ KZ PZ BZ hHeld ⊢
        refine pure_ (i := 2) (N := some 54) (v := ?_) (a' := ?_) #[false, false, true, false, false, false, false, false] rfl rfl (any_of HT_.out (by kernel_rfl)) (fun _ _ _ h => h) (Or.inl ⟨by rfl, ?_⟩) ?_ ?_
        rotate_left
        · intro w'
          go_simp
          with_reducible rfl
        rotate_left
        · simp only [Act.put, List.setIfInBounds_toArray, List.set_cons_zero, List.set_cons_succ, i64_w, i32_w]
          rfl
        refine pure_ (i := 4) (N := some 56) (v := ?_) (a' := ?_) #[false, false, true, false, true, false, false, false] rfl rfl (any_of HT_.out (by kernel_rfl)) (fun _ _ _ h => h) (Or.inl ⟨by rfl, ?_⟩) ?_ ?_
        rotate_left
        · intro w'
          go_simp
          with_reducible rfl
        rotate_left
        · simp only [Act.put, List.setIfInBounds_toArray, List.set_cons_zero, List.set_cons_succ, i64_w, i32_w]
          rfl
        refine take_ (i := 0) (N := some 52) (v := ?_) (a' := ?_) #[true, false, true, false, true, false, false, false] rfl rfl (take_ofW HT_.out HW_.out (by kernel_rfl)) (fun _ _ _ h => h) (Or.inl ⟨by rfl, ?_⟩) hHeld ?_ ?_
        rotate_left
        · rintro w' s0
          go_simp
          with_reducible rfl
        rotate_left
        · simp only [Act.put, List.setIfInBounds_toArray, List.set_cons_zero, List.set_cons_succ, i64_w, i32_w]
          rfl
        refine join_ (σ := Value × Value × Value) 2 #[true, true, true, true, true, true, false, false] (fun s_ => [(53, s_.1), (55, s_.2.1), (57, s_.2.2)]) (fun s_ w' => (w'.cell? ⟨gW, 0, none⟩ = some (.func (.func 115) #[] #[.pointer (some ⟨gB, 0, none⟩), .pointer (some ⟨gO, 0, none⟩), .pointer (some ⟨gW, 0, none⟩)])) ∧ Kd.R (Kd.int .i64) 3 w' wz.heap.size (fun _ => True) s_.2.1 p ∧ Kd.R (Kd.int .i64) 3 w' wz.heap.size (fun k => True ∧ some k ≠ (s_.2.1 : Value).ownBlock) s_.2.2 [(j : Int)] ∧ Below wz.heap.size wz w') ?_ ?_
        rotate_left
        · intro hCont
          refine two_ (i := 1) (j := 5) (Ni := some 53) (Nj := some 57) #[true, true, true, false, true, false, false, false] #[true, false, true, false, true, true, false, false] rfl rfl rfl rfl (two_of HT_.out (by kernel_rfl)) (by decide) (by decide) (fun K hK => ?_) (fun K hK => ?_)
          · skip
            refine Kd.R_lit_step (Kd.int .i64) _ 3 ?hg (N := 53) ?hd (xs := ([] : List Int)) (inner := []) (ok := fun _ => True) (okp := fun _ => True) ?hr ?hp (fun _ hk => hk) trivial (Below.refl _ _) (Nat.le_refl _) (by simp) ?_
            (case hd => rfl)
            (case hg => rfl)
            (case hr => first | (go_simp; done) | (go_simp; rfl))
            (case hp => exact (Reps.none _ _))
            intro v53 wa_ ho hb hg_ hnew_
            clear hg_ hnew_
            have HO53 := Aside0.mk (Kd.R_lower ho BZ.out.size)
            have n0_ := Aside0.mk (below_step BZ.out hb)
            clear BZ hb ho
            have BZ := n0_
            clear n0_
            refine hK.out _ _ (blk_cell (blk_below SZ.out.bW BZ.out) 0 |>.trans rfl) (fun hHeld => ?_)
            clear hK K
            refine norm_ (a' := ?_) ?_ ?_
            rotate_left
            · show Act.put _ (some 53) _ = _
              simp only [Act.put, List.setIfInBounds_toArray, List.set_cons_zero, List.set_cons_succ, i64_w, i32_w]
              rfl
            refine two_ (i := 3) (j := 5) (Ni := some 55) (Nj := some 57) #[true, true, true, true, true, false, false, false] #[true, true, true, false, true, true, false, false] rfl rfl rfl rfl (two_of HT_.out (by kernel_rfl)) (by decide) (by decide) (fun K hK => ?_) (fun K hK => ?_)
            · skip
              refine Kd.R_append_rows_step (Kd.int .i64) (w0 := wz) wz.heap.size (by rfl) (.tmp 53) (.tmp 54) 22 3 (.int .i64 0) 8 rfl Try.underlying22 info3 rfl (by decide) (by omega) v53 [] p _ _ _ (fun _ => True) (fun _ => False) rfl rfl ?aO ?aR (fun _ _ h => h) (fun _ h => h.elim) ?aF ?aB ?aS ?aL ?_
              (case aR => exact (Foot.now (Kd.F_below PZ.out BZ.out)))
              (case aB => exact BZ.out)
              (case aF => exact fun _ _ => trivial)
              (case aO => exact HO53.out)
              (case aS => exact BZ.out.size)
              (case aL => (try simp only [List.length_nil, List.length_cons]); have := HLP.out; omega)
              intro v55 wb_ ho hb hg hat
              rw [List.nil_append] at ho
              have HO55 := Aside0.mk ho
              clear BZ HO53
              have BZ := Aside0.mk hb
              clear ho hb hg hat
              refine hK.out _ _ (blk_cell (blk_below SZ.out.bW BZ.out) 0 |>.trans rfl) (fun hHeld => ?_)
              clear hK K
              refine norm_ (a' := ?_) ?_ ?_
              rotate_left
              · show Act.put _ (some 55) _ = _
                simp only [Act.put, List.setIfInBounds_toArray, List.set_cons_zero, List.set_cons_succ, i64_w, i32_w]
                rfl
              refine one_ (i := 5) (N := some 57) #[true, true, true, true, true, true, false, false] rfl rfl (one_of HT_.out (by kernel_rfl)) (by decide) (fun K hK => ?_)
              refine Kd.R_lit_step (Kd.int .i64) _ 3 ?hg (N := 57) ?hd (xs := ([(j : Int)] : List Int)) (inner := [.int .i64 (j : Int)]) (ok := fun _ => True) (okp := fun _ => True) ?hr ?hp (fun _ hk => hk) trivial (Below.refl _ _) (Nat.le_refl _) (by simp) ?_
              (case hd => rfl)
              (case hg => rfl)
              (case hr => first | (go_simp; done) | (go_simp; rfl))
              (case hp => exact (Reps.one (show Kd.M (Kd.int .i64) _ _ _ (j : Int) [.int .i64 (j : Int)] from rfl) (Reps.none _ _)))
              intro v57 wa_ ho hb hg_ hnew_
              clear hg_ hnew_
              have HO57 := Aside0.mk (Kd.R_lower (Kd.R_new' (u := v55) ho (Kd.R_lt HO55.out)) BZ.out.size)
              have m0_ := Aside0.mk (Kd.R_below HO55.out hb)
              clear HO55
              have HO55 := m0_
              clear m0_
              have n0_ := Aside0.mk (below_step BZ.out hb)
              clear BZ hb ho
              have BZ := n0_
              clear n0_
              refine hK.out _ _ (blk_cell (blk_below SZ.out.bW BZ.out) 0 |>.trans rfl) (fun hHeld => ?_)
              clear hK K
              refine norm_ (a' := ?_) ?_ ?_
              rotate_left
              · show Act.put _ (some 57) _ = _
                simp only [Act.put, List.setIfInBounds_toArray, List.set_cons_zero, List.set_cons_succ, i64_w, i32_w]
                rfl
              exact norm_ (by simp only [putAll, Act.put, List.setIfInBounds_toArray, List.set_cons_zero, List.set_cons_succ]) (hCont (v53, v55, v57) _ ⟨hHeld, HO55.out, HO57.out, BZ.out⟩)
            · skip
              refine Kd.R_lit_step (Kd.int .i64) _ 3 ?hg (N := 57) ?hd (xs := ([(j : Int)] : List Int)) (inner := [.int .i64 (j : Int)]) (ok := fun _ => True) (okp := fun _ => True) ?hr ?hp (fun _ hk => hk) trivial (Below.refl _ _) (Nat.le_refl _) (by simp) ?_
              (case hd => rfl)
              (case hg => rfl)
              (case hr => first | (go_simp; done) | (go_simp; rfl))
              (case hp => exact (Reps.one (show Kd.M (Kd.int .i64) _ _ _ (j : Int) [.int .i64 (j : Int)] from rfl) (Reps.none _ _)))
              intro v57 wa_ ho hb hg_ hnew_
              clear hg_ hnew_
              have HO57 := Aside0.mk (Kd.R_lower (Kd.R_new' (u := v53) ho (Kd.R_lt HO53.out)) BZ.out.size)
              have m0_ := Aside0.mk (Kd.R_below HO53.out hb)
              clear HO53
              have HO53 := m0_
              clear m0_
              have n0_ := Aside0.mk (below_step BZ.out hb)
              clear BZ hb ho
              have BZ := n0_
              clear n0_
              refine hK.out _ _ (blk_cell (blk_below SZ.out.bW BZ.out) 0 |>.trans rfl) (fun hHeld => ?_)
              clear hK K
              refine norm_ (a' := ?_) ?_ ?_
              rotate_left
              · show Act.put _ (some 57) _ = _
                simp only [Act.put, List.setIfInBounds_toArray, List.set_cons_zero, List.set_cons_succ, i64_w, i32_w]
                rfl
              refine one_ (i := 3) (N := some 55) #[true, true, true, true, true, true, false, false] rfl rfl (one_of HT_.out (by kernel_rfl)) (by decide) (fun K hK => ?_)
              refine Kd.R_append_rows_step (Kd.int .i64) (w0 := wz) wz.heap.size (by rfl) (.tmp 53) (.tmp 54) 22 3 (.int .i64 0) 8 rfl Try.underlying22 info3 rfl (by decide) (by omega) v53 [] p _ _ _ (fun _ => True) (fun _ => False) rfl rfl ?aO ?aR (fun _ _ h => h) (fun _ h => h.elim) ?aF ?aB ?aS ?aL ?_
              (case aR => exact (Foot.now (Kd.F_below PZ.out BZ.out)))
              (case aB => exact BZ.out)
              (case aF => exact fun _ _ => trivial)
              (case aO => exact HO53.out)
              (case aS => exact BZ.out.size)
              (case aL => (try simp only [List.length_nil, List.length_cons]); have := HLP.out; omega)
              intro v55 wb_ ho hb hg hat
              rw [List.nil_append] at ho
              have m0_ := Aside0.mk (Kd.R_after (ok := fun _ => True) HO57.out hg hat)
              clear HO57
              have HO57 := m0_
              clear m0_
              have HO55 := Aside0.mk ho
              clear BZ HO53
              have BZ := Aside0.mk hb
              clear ho hb hg hat
              refine hK.out _ _ (blk_cell (blk_below SZ.out.bW BZ.out) 0 |>.trans rfl) (fun hHeld => ?_)
              clear hK K
              refine norm_ (a' := ?_) ?_ ?_
              rotate_left
              · show Act.put _ (some 55) _ = _
                simp only [Act.put, List.setIfInBounds_toArray, List.set_cons_zero, List.set_cons_succ, i64_w, i32_w]
                rfl
              exact norm_ (by simp only [putAll, Act.put, List.setIfInBounds_toArray, List.set_cons_zero, List.set_cons_succ]) (hCont (v53, v55, v57) _ ⟨hHeld, HO55.out, HO57.out, BZ.out⟩)
          · skip
            refine Kd.R_lit_step (Kd.int .i64) _ 3 ?hg (N := 57) ?hd (xs := ([(j : Int)] : List Int)) (inner := [.int .i64 (j : Int)]) (ok := fun _ => True) (okp := fun _ => True) ?hr ?hp (fun _ hk => hk) trivial (Below.refl _ _) (Nat.le_refl _) (by simp) ?_
            (case hd => rfl)
            (case hg => rfl)
            (case hr => first | (go_simp; done) | (go_simp; rfl))
            (case hp => exact (Reps.one (show Kd.M (Kd.int .i64) _ _ _ (j : Int) [.int .i64 (j : Int)] from rfl) (Reps.none _ _)))
            intro v57 wa_ ho hb hg_ hnew_
            clear hg_ hnew_
            have HO57 := Aside0.mk (Kd.R_lower ho BZ.out.size)
            have n0_ := Aside0.mk (below_step BZ.out hb)
            clear BZ hb ho
            have BZ := n0_
            clear n0_
            refine hK.out _ _ (blk_cell (blk_below SZ.out.bW BZ.out) 0 |>.trans rfl) (fun hHeld => ?_)
            clear hK K
            refine norm_ (a' := ?_) ?_ ?_
            rotate_left
            · show Act.put _ (some 57) _ = _
              simp only [Act.put, List.setIfInBounds_toArray, List.set_cons_zero, List.set_cons_succ, i64_w, i32_w]
              rfl
            refine one_ (i := 1) (N := some 53) #[true, true, true, false, true, true, false, false] rfl rfl (one_of HT_.out (by kernel_rfl)) (by decide) (fun K hK => ?_)
            refine Kd.R_lit_step (Kd.int .i64) _ 3 ?hg (N := 53) ?hd (xs := ([] : List Int)) (inner := []) (ok := fun _ => True) (okp := fun _ => True) ?hr ?hp (fun _ hk => hk) trivial (Below.refl _ _) (Nat.le_refl _) (by simp) ?_
            (case hd => rfl)
            (case hg => rfl)
            (case hr => first | (go_simp; done) | (go_simp; rfl))
            (case hp => exact (Reps.none _ _))
            intro v53 wa_ ho hb hg_ hnew_
            clear hg_ hnew_
            have m0_ := Aside0.mk (Kd.R_elder' (v := v53) HO57.out (Kd.R_base ho) hb)
            clear HO57
            have HO57 := m0_
            clear m0_
            have HO53 := Aside0.mk (Kd.R_lower ho BZ.out.size)
            have n0_ := Aside0.mk (below_step BZ.out hb)
            clear BZ hb ho
            have BZ := n0_
            clear n0_
            refine hK.out _ _ (blk_cell (blk_below SZ.out.bW BZ.out) 0 |>.trans rfl) (fun hHeld => ?_)
            clear hK K
            refine norm_ (a' := ?_) ?_ ?_
            rotate_left
            · show Act.put _ (some 53) _ = _
              simp only [Act.put, List.setIfInBounds_toArray, List.set_cons_zero, List.set_cons_succ, i64_w, i32_w]
              rfl
            refine one_ (i := 3) (N := some 55) #[true, true, true, true, true, true, false, false] rfl rfl (one_of HT_.out (by kernel_rfl)) (by decide) (fun K hK => ?_)
            refine Kd.R_append_rows_step (Kd.int .i64) (w0 := wz) wz.heap.size (by rfl) (.tmp 53) (.tmp 54) 22 3 (.int .i64 0) 8 rfl Try.underlying22 info3 rfl (by decide) (by omega) v53 [] p _ _ _ (fun _ => True) (fun _ => False) rfl rfl ?aO ?aR (fun _ _ h => h) (fun _ h => h.elim) ?aF ?aB ?aS ?aL ?_
            (case aR => exact (Foot.now (Kd.F_below PZ.out BZ.out)))
            (case aB => exact BZ.out)
            (case aF => exact fun _ _ => trivial)
            (case aO => exact HO53.out)
            (case aS => exact BZ.out.size)
            (case aL => (try simp only [List.length_nil, List.length_cons]); have := HLP.out; omega)
            intro v55 wb_ ho hb hg hat
            rw [List.nil_append] at ho
            have m0_ := Aside0.mk (Kd.R_after (ok := fun _ => True) HO57.out hg hat)
            clear HO57
            have HO57 := m0_
            clear m0_
            have HO55 := Aside0.mk ho
            clear BZ HO53
            have BZ := Aside0.mk hb
            clear ho hb hg hat
            refine hK.out _ _ (blk_cell (blk_below SZ.out.bW BZ.out) 0 |>.trans rfl) (fun hHeld => ?_)
            clear hK K
            refine norm_ (a' := ?_) ?_ ?_
            rotate_left
            · show Act.put _ (some 55) _ = _
              simp only [Act.put, List.setIfInBounds_toArray, List.set_cons_zero, List.set_cons_succ, i64_w, i32_w]
              rfl
            exact norm_ (by simp only [putAll, Act.put, List.setIfInBounds_toArray, List.set_cons_zero, List.set_cons_succ]) (hCont (v53, v55, v57) _ ⟨hHeld, HO55.out, HO57.out, BZ.out⟩)
        rintro ⟨v53, v55, v57⟩ w53 ⟨hHeld, h0_, h1_, h2_⟩
        clear BZ
        have HO55 := Aside0.mk h0_
        have HO57 := Aside0.mk h1_
        have BZ := Aside0.mk h2_
        clear h0_ h1_ h2_
        obtain ⟨A57, c57, e57⟩ := Kd.R_slice HO57.out
        subst e57
        refine norm_ (a' := ?_) ?_ ?_
        rotate_left
        · simp only [putAll, Act.put, List.setIfInBounds_toArray, List.set_cons_zero, List.set_cons_succ]
          rfl
        refine one_ (i := 6) (N := some 58) #[true, true, true, true, true, true, true, false] rfl rfl (one_of HT_.out (by kernel_rfl)) (by decide) (fun K hK => ?_)
        refine Kd.R_append_rows_step (Kd.int .i64) (w0 := wz) wz.heap.size (by rfl) (.tmp 55) (.tmp 57) 22 3 (.int .i64 0) 8 rfl Try.underlying22 info3 rfl (by decide) (by omega) v55 p [(j : Int)] _ _ _ (fun _ => True) (fun _ => False) rfl rfl ?aO ?aR (fun _ _ h => h) (fun _ h => h.elim) ?aF ?aB ?aS ?aL ?_
        (case aR => exact (Kd.R_reads' HO57.out).2.2)
        (case aB => exact BZ.out)
        (case aF => exact fun _ _ => trivial)
        (case aO => exact HO55.out)
        (case aS => exact BZ.out.size)
        (case aL => (try simp only [List.length_nil, List.length_cons]); have := HLP.out; omega)
        intro v58 wb_ ho hb hg hat
        have HO58 := Aside0.mk ho
        clear HO57
        clear BZ HO55
        have BZ := Aside0.mk hb
        clear ho hb hg hat
        have SY := Aside0.mk (St.below SZ.out BZ.out)
        have KY := Aside0.mk (Kp.trans KZ.out (Kp.below BZ.out))
        refine hK.out _ _ (blk_cell (blk_below SZ.out.bW BZ.out) 0 |>.trans rfl) (fun hHeld => ?_)
        clear hK K
        refine norm_ (a' := ?_) ?_ ?_
        rotate_left
        · show Act.put _ (some 58) _ = _
          simp only [Act.put, List.setIfInBounds_toArray, List.set_cons_zero, List.set_cons_succ, i64_w, i32_w]
          rfl
        obtain ⟨A58, c58, e58⟩ := Kd.R_slice HO58.out
        subst e58
        have HP58 : Aside0 (Pa gO wb_ v A58 (p ++ [(j : Int)])) := ⟨Kd.F_mono (Kd.R_F (Kd.R_bound HO58.out)) (fun k hk => ⟨fun e => by have h5 := hk.2.1; have h6 := blk_lt SZ.out.bO; omega, fun e => by have h5 := hk.2.1; have h6 := Kd.N_lt SZ.out.hN k e.symm; omega⟩)⟩
        have hc58 := (Kd.R_reads' HO58.out).2.1
        refine one_ (i := 7) (N := some 59) #[true, true, true, true, true, true, true, true] rfl rfl (one_of HT_.out (by kernel_rfl)) (by decide) (fun K hK => ?_)
        have he := enters_ Try.func115 (by kernel_rfl) rfl #[.slice A58 (p ++ [(j : Int)]).length c58, .pointer (some ⟨gB, 0, none⟩), .pointer (some ⟨gO, 0, none⟩), .pointer (some ⟨gW, 0, none⟩)] wb_
        refine call_ 115 #[.slice A58 (p ++ [(j : Int)]).length c58, .pointer (some ⟨gB, 0, none⟩), .pointer (some ⟨gO, 0, none⟩), .pointer (some ⟨gW, 0, none⟩)] (by rfl) rfl ?hr ?_
        (case hr => unfold execOp; simp [resolve, Deferred.ofValue, invoke, Act.eval, he])
        refine (walk hD sq h4 nBO nOB nWO nOW nBW nWB gO0 m (p ++ [(j : Int)]) ?s1 ?s2 ?s3 ?s4 A58 c58 wb_ v ys hc58 ?s5 SY.out HP58.out).mono ?_
        (case s1 => simp)
        (case s2 => exact fun x hx => (List.mem_append.1 hx).elim (fun z => hr x z) (fun z => by have := List.mem_singleton.1 z; have := HSQ.out; omega))
        (case s3 => exact List.nodup_append.2 ⟨hnd, (by simp), fun a ha b hb e => HIN.out (by rw [← List.mem_singleton.1 hb, ← e]; exact ha)⟩)
        (case s4 => rw [List.length_append, List.length_singleton]; omega)
        (case s5 => have z := HBd.out; rw [Nat.succ_mul] at z; omega)
        rintro e w9 ⟨rfl, v9, hs9, hk9⟩
        refine ⟨_, rfl, ?_⟩
        have HS9 := Aside0.mk hs9
        have HK9 := Aside0.mk (Kp.trans KY.out hk9)
        clear hs9 hk9
        refine hK.out _ _ ((blk_cell HS9.out.bW 0).trans rfl) (fun hHeld => ?_)
        clear hK K
        refine done_ (by kernel_rfl) ?_
        try go_wp2
        go_roundg k1
        case measure => omega
        case rel => exact ⟨j + 1, v9, _, by omega, (by first | rw [HWJ.out] | go_num), ⟨by (repeat (first | with_reducible refine St.drewN ?_ _ | with_reducible refine St.drew ?_)); exact HS9.out⟩, ⟨by (repeat (first | with_reducible refine Kp.drewN ?_ _ | with_reducible refine Kp.drew ?_)); exact HK9.out⟩, ⟨by have z := HE.out; rw [rowI, HREC.out] at z; rw [List.append_assoc]; exact z⟩, ⟨by have z := HBd.out; rw [Nat.succ_mul] at z; have y := walk_len sq h4 m (p ++ [(j : Int)]); rw [List.length_append]; omega⟩⟩
      · obtain rfl : j = row.length := by omega
        have hk0 : gk = 0 := by omega
        subst hk0
        have c3b0 : decide ((row.length : Int) < (row.length : Int)) = false := decide_eq_false (by omega)
        go_wp2
        go_end0
        exact ⟨rfl, v, by have := HE.out; rw [rowI, List.append_nil] at this; rw [← this]; (repeat (first | with_reducible refine St.drewN ?_ _ | with_reducible refine St.drew ?_)); exact SS.out, by (repeat (first | with_reducible refine Kp.drewN ?_ _ | with_reducible refine Kp.drew ?_)); exact KK.out⟩
def foundI (d : List (List Int)) : Nat → Nat → List (List Int)
  | 0, _ => []
  | e + 1, i => walkI d d.length [(i : Int)] ++ foundI d e (i + 1)
theorem lit1 {gO : Nat} {vo : Value} (w : World) (i : Int) (h1 : gO < w.heap.size) (h2 : ∀ k, vo.ownBlock = some k → k < w.heap.size) : Pa gO (w.alloc (.cells #[.int .i64 i] 3)) vo (some ⟨w.heap.size, 0, none⟩) [i] := by
  have hR : Kd.R (Kd.int .i64) 3 (w.alloc (.cells #[.int .i64 i] 3)) w.heap.size (fun _ => True) (.slice (some ⟨w.heap.size, 0, none⟩) 1 1) [i] := by
    refine ⟨fun _ _ => trivial, [.int .i64 i], World.ownsRow_lit w #[.int .i64 i] 1 (Nat.le_refl _) (by decide) rfl, Reps.one (show Kd.M (Kd.int .i64) _ _ _ i [.int .i64 i] from rfl) (Reps.none _ _)⟩
  exact Kd.F_mono (Kd.R_F (Kd.R_bound hR)) (fun k hk => ⟨fun e => by have := hk.2.1; omega, fun e => by have := hk.2.1; have := h2 k e.symm; omega⟩)
theorem size_alloc_ (w : World) (o : Obj) : (w.alloc o).heap.size = w.heap.size + 1 := by rw [show (w.alloc o).heap = w.heap.push o from rfl, Array.size_push]
def at4 (w : World) (C1 C2 C3 C4 : Array Value) : World := (((w.alloc (.cells C1 25)).alloc (.cells C2 22)).alloc (.cells C3 23)).alloc (.cells C4 115)
theorem at4_1 (w : World) (C1 C2 C3 C4 : Array Value) : (at4 w C1 C2 C3 C4).heap[w.heap.size]? = some (.cells C1 25 (0, 0)) := blk_alloc (blk_alloc (blk_alloc (blk_new w _) _) _) _
theorem at4_3 (w : World) (C1 C2 C3 C4 : Array Value) : (at4 w C1 C2 C3 C4).heap[w.heap.size + 1 + 1]? = some (.cells C3 23 (0, 0)) := by
  have := blk_new ((w.alloc (.cells C1 25)).alloc (.cells C2 22)) (.cells C3 23)
  rw [size_alloc_, size_alloc_] at this
  exact blk_alloc this _
theorem at4_4 (w : World) (C1 C2 C3 C4 : Array Value) : (at4 w C1 C2 C3 C4).heap[w.heap.size + 1 + 1 + 1]? = some (.cells C4 115 (0, 0)) := by
  have := blk_new (((w.alloc (.cells C1 25)).alloc (.cells C2 22)).alloc (.cells C3 23)) (.cells C4 115)
  rw [size_alloc_, size_alloc_, size_alloc_] at this
  exact this
theorem st_init (w : World) (AC : Option Addr) (nC cC : Nat) (AD : Option Addr) (nD cD : Nat) :
    St w w.heap.size (w.heap.size + 1 + 1) (w.heap.size + 1 + 1 + 1) AC nC cC AD nD cD (.slice (some ⟨w.heap.size + 1, 0, none⟩) 0 0) []
      ((at4 w #[.slice AC nC cC, .slice AD nD cD] #[] #[.slice (some ⟨w.heap.size + 1, 0, none⟩) 0 0] #[.nilFunc]).setCell ⟨w.heap.size + 1 + 1 + 1, 0, none⟩
        (.func (.func 115) #[] #[.pointer (some ⟨w.heap.size, 0, none⟩), .pointer (some ⟨w.heap.size + 1 + 1, 0, none⟩), .pointer (some ⟨w.heap.size + 1 + 1 + 1, 0, none⟩)])) := by
  have hR : Kd.N (Kd.slice 3 (Kd.int .i64)) 22 ((w.alloc (.cells #[.slice AC nC cC, .slice AD nD cD] 25)).alloc (.cells #[] 22)) w.heap.size (fun k => w.heap.size ≤ k ∧ k ≠ w.heap.size + 1 + 1) (.slice (some ⟨w.heap.size + 1, 0, none⟩) 0 0) [] := by
    refine ⟨fun k hk => ?_, [], rfl, ⟨fun k hk => hk.symm, [], ?_, Reps.none _ _⟩, fun j x c hx _ => by simp at hx⟩
    · have : w.heap.size + 1 = k := by simpa [Value.ownBlock] using hk
      omega
    · have := World.ownsRow_lit (base := w.heap.size) (e := 22) (size := (Kd.raw (Kd.slice 3 (Kd.int .i64)).sz).sz) (w.alloc (.cells #[.slice AC nC cC, .slice AD nD cD] 25)) #[] 0 (by rw [size_alloc_]; omega) (by decide) (by simp)
      rw [size_alloc_] at this
      exact this
  refine ⟨?_, blk_far (at4_1 _ _ _ _ _) (by show w.heap.size ≠ w.heap.size + 1 + 1 + 1; omega) _, blk_far (at4_3 _ _ _ _ _) (by show w.heap.size + 1 + 1 ≠ w.heap.size + 1 + 1 + 1; omega) _, blk_put (at4_4 _ _ _ _ _) 0 _ rfl, ?_⟩
  · unfold at4; exact below_set (below_alloc (below_alloc (below_alloc (below_alloc (Below.refl _ _) _) _) _) _) (by omega)
  · refine Kd.N_below hR (below_set (below_alloc (below_alloc (Below.refl _ _) _) _) ?_)
    rw [size_alloc_, size_alloc_]; omega
end Circ
open Circ
def impl_circles.f (_ : Nat) (c : List Int) (d : List (List Int)) : Option (List (List Int)) :=
  if c.length = d.length ∧ d.length ≤ 4 ∧ (∀ i, i < d.length → (d.getD i []).length = d.length) ∧ (foundI d d.length 0).length ≤ 20 then some (srtL ((foundI d d.length 0).length - 1) 1 (foundI d d.length 0)) else none
theorem impl_circles.mono : ∀ a0 a1 k, LeO (impl_circles.f k a0 a1) (impl_circles.f (k + 1) a0 a1) := fun _ _ _ => LeO.refl _
set_option maxHeartbeats 8000000 in
set_option maxRecDepth 100000 in
theorem impl_circles.calls (k : Nat) (A0_0 : Option Addr) (c0_0 : Nat) (l0_0 : List Int) (A0_1 : Option Addr) (c0_1 : Nat) (l0_1 : List (List Int)) (r : List (List Int)) (w : World) (hr0_0 : Kd.C (Kd.int .i64) w A0_0 l0_0.length l0_0) (hc0_0 : l0_0.length ≤ c0_0) (hr0_1 : Kd.C (Kd.slice 3 (Kd.int .i64)) w A0_1 l0_1.length l0_1) (hc0_1 : l0_1.length ≤ c0_1) (h : impl_circles.f k l0_0 l0_1 = some r) :
    Calls Try.prog 96 #[.agg #[.slice A0_0 l0_0.length c0_0, .slice A0_1 l0_1.length c0_1]] w fun e w' => ∃ v0_ : Value, e = .returned (v0_) ∧ Kd.N (Kd.slice 3 (Kd.int .i64)) 22 w' w.heap.size (fun k_ => (w.heap.size ≤ k_)) v0_ r ∧ Below w.heap.size w w' := by
  have hu := Try.underlying25
  unfold impl_circles.f at h
  split at h
  case isFalse => cases h
  case isTrue hh =>
  obtain ⟨hcd, h4, sq, h20⟩ := hh
  have HR := Aside0.mk (Option.some.inj h)
  have HCD := Aside0.mk hcd
  clear hcd
  clear h
  have H20 := Aside0.mk h20
  clear h20
  have HD := Aside0.mk hr0_1
  have HSQ := Aside0.mk sq
  clear hr0_1 sq
  have z1 : w.heap.size ≠ w.heap.size + 1 + 1 := by omega
  have z2 : w.heap.size + 1 + 1 ≠ w.heap.size := by omega
  have z3 : w.heap.size + 1 + 1 + 1 ≠ w.heap.size + 1 + 1 := by omega
  have z4 : w.heap.size + 1 + 1 ≠ w.heap.size + 1 + 1 + 1 := by omega
  have z5 : w.heap.size ≠ w.heap.size + 1 + 1 + 1 := by omega
  have z6 : w.heap.size + 1 + 1 + 1 ≠ w.heap.size := by omega
  have z7 : w.heap.size ≤ w.heap.size + 1 + 1 := by omega
  have hst := at4_4 w #[.slice A0_0 l0_0.length c0_0, .slice A0_1 l0_1.length c0_1] #[] #[.slice (some ⟨w.heap.size + 1, 0, none⟩) 0 0] #[.nilFunc]
  have hs0 : (at4 w #[.slice A0_0 l0_0.length c0_0, .slice A0_1 l0_1.length c0_1] #[] #[.slice (some ⟨w.heap.size + 1, 0, none⟩) 0 0] #[.nilFunc]).cell? ⟨w.heap.size + 1 + 1 + 1, 0, none⟩ = some .nilFunc := (blk_cell hst 0).trans rfl
  have hf0 := blk_frozen hst 0
  unfold at4 at hs0 hf0
  clear hst
  go_enter Try.func96, Try.ntmps96
  have S0 := Aside0.mk (st_init w A0_0 l0_0.length c0_0 A0_1 l0_1.length c0_1)
  unfold at4 at S0
  generalize hW4 : ((((w.alloc (.cells #[.slice A0_0 l0_0.length c0_0, .slice A0_1 l0_1.length c0_1] 25)).alloc (.cells #[] 22)).alloc (.cells #[.slice (some ⟨w.heap.size + 1, 0, none⟩) 0 0] 23)).alloc (.cells #[.nilFunc] 115)) = w4 at hs0 hf0 S0
  go_wp2_with ((with_reducible refine gate_store (t := 115) (p := 4) rfl ?_); refine store_event (t := 115) (p := 4) (v := ?vo) (w1 := w4.setCell ⟨w.heap.size + 1 + 1 + 1, 0, none⟩
        (.func (.func 115) #[] #[.pointer (some ⟨w.heap.size, 0, none⟩), .pointer (some ⟨w.heap.size + 1 + 1, 0, none⟩), .pointer (some ⟨w.heap.size + 1 + 1 + 1, 0, none⟩)])) ?hg ?ho ?hn ?hr ?_; (case ho => rfl); (case hg => rfl); (case hn => rfl); (case hr => go_simp; rw [run_store _ _ _ _ _ rfl]; simp only [stored, hs0, hf0]; rfl); intro w5 hw; rw [← hw] at S0; have SS := S0; clear S0 hs0 hf0 hW4 hw; have hz0 : w5.cell? ⟨w.heap.size, 0, none⟩ = some (.slice A0_0 l0_0.length c0_0) := (blk_cell SS.out.bB 0).trans rfl)
  have h625 : l0_1.length * 5 ^ l0_1.length ≤ 4 * 625 := Nat.mul_le_mul h4 (Nat.pow_le_pow_right (by omega) h4)
  generalize hF : foundI l0_1 l0_1.length 0 = F at HR H20
  have HF := Aside0.mk hF
  clear hF
  obtain ⟨n, hn⟩ : ∃ n, n = l0_1.length := ⟨_, rfl⟩
  have HN := Aside0.mk hn
  have H4 := Aside0.mk h4
  clear hn h4
  have H625 := Aside0.mk h625
  clear h625
  have HHR := Aside0.mk hr0_0
  clear hr0_0
  go_loopg [11] (l0_0.length) (fun kq v11 w' => ∃ (j : Nat) (v : Value) (ys : List (List Int)), kq + j = l0_0.length ∧ v11 = .int .i64 j ∧ Aside0 (St w w.heap.size (w.heap.size + 1 + 1) (w.heap.size + 1 + 1 + 1) A0_0 l0_0.length c0_0 A0_1 l0_1.length c0_1 v ys w') ∧ Aside0 (ys ++ foundI l0_1 kq j = F) ∧ Aside0 (ys.length + kq * 5 ^ l0_1.length ≤ 1000000))
  case atStart => exact ⟨0, _, [], by omega, rfl, ⟨by (repeat (first | with_reducible refine St.drewN ?_ _ | with_reducible refine St.drew ?_)); exact SS.out⟩, ⟨by rw [← HF.out, List.nil_append, HCD.out]⟩, ⟨by have := H625.out; rw [HCD.out, List.length_nil]; omega⟩⟩
  case round =>
    clear SS
    obtain ⟨j, v, ys, hj, rfl, SS, HE, HBd⟩ := hrel
    by_cases hlt : j < l0_0.length
    · obtain ⟨k1, rfl⟩ : ∃ k1, gk = k1 + 1 := ⟨gk - 1, by omega⟩
      have HWJ : Aside0 (wrap64 ((j : Int) + 1) = ((j + 1 : Nat) : Int)) := ⟨by have := H4.out; have := HCD.out; unfold wrap64; omega⟩
      have hzW : wr.cell? ⟨w.heap.size + 1 + 1 + 1, 0, none⟩ = some (.func (.func 115) #[] #[.pointer (some ⟨w.heap.size, 0, none⟩), .pointer (some ⟨w.heap.size + 1 + 1, 0, none⟩), .pointer (some ⟨w.heap.size + 1 + 1 + 1, 0, none⟩)]) := (blk_cell SS.out.bW 0).trans rfl
      have c3b0 : decide ((j : Int) < (l0_0.length : Int)) = true := decide_eq_true (by omega)
      go_wp2_with (go_at_call 115; refine (walk HD.out HSQ.out H4.out z1 z2 z3 z4 z5 z6 z7 l0_1.length [(j : Int)] (by simp) ?s2 (by simp) (by simp) _ 1 _ v ys (Nat.le_refl _) ?s5 (SS.out.below (below_alloc (Below.refl _ _) _)) (lit1 wr (j : Int) (blk_lt SS.out.bO) (Kd.N_lt SS.out.hN))).mono ?_; (case s2 => exact fun x hx => by have := List.mem_singleton.1 hx; have := HCD.out; omega); (case s5 => have z := HBd.out; rw [Nat.succ_mul] at z; omega); rintro e w9 ⟨rfl, v9, hs9, _⟩; have HS9 := Aside0.mk hs9; clear hs9)
      go_roundg k1
      case measure => omega
      case rel => exact ⟨j + 1, v9, _, by omega, (by first | rw [HWJ.out] | go_num), ⟨by (repeat (first | with_reducible refine St.drewN ?_ _ | with_reducible refine St.drew ?_)); exact HS9.out⟩, ⟨by have z := HE.out; rw [foundI] at z; rw [List.append_assoc]; exact z⟩, ⟨by have z := HBd.out; rw [Nat.succ_mul] at z; have y := walk_len HSQ.out H4.out l0_1.length [(j : Int)]; rw [List.length_append]; omega⟩⟩
    · obtain rfl : j = l0_0.length := by omega
      have hk0 : gk = 0 := by omega
      subst hk0
      have c3b0 : decide ((l0_0.length : Int) < (l0_0.length : Int)) = false := decide_eq_false (by omega)
      have HYF : Aside0 (ys = F) := ⟨by have := HE.out; rw [foundI, List.append_nil] at this; exact this⟩
      have hzO : wr.cell? ⟨w.heap.size + 1 + 1, 0, none⟩ = some v := (blk_cell SS.out.bO 0).trans rfl
      by_cases hys : ys = []
      · subst hys
        obtain ⟨AV, cV, eV⟩ := Kd.N_slice SS.out.hN
        have HEV := Aside0.mk eV
        clear eV
        go_wp2_with (go_at_call 117; rw [HEV.out]; refine (sort117_0 AV cV _).mono ?_; rintro e w9 ⟨rfl, ⟨nd, rfl⟩⟩)
        go_ret
        refine ⟨_, rfl, ?_, ?_⟩
        · rw [← HR.out, ← HYF.out]
          exact Kd.N_mono (ok := fun k => w.heap.size ≤ k ∧ k ≠ w.heap.size + 1 + 1) (by (repeat (first | with_reducible refine Kd.N_drewN ?_ _ | with_reducible refine Kd.N_drew ?_)); exact SS.out.hN) (fun _ hk => hk.1)
        · repeat (first | (with_reducible first | exact SS.out.hB | apply below_alloc | apply pw_below_drewN | apply below_drew1) | exact SS.out.hB)
      · have hlen : 0 < ys.length := List.length_pos_iff.2 hys
        obtain ⟨g, cap, eV, hg, hgl, _⟩ := Kd.N_form SS.out.hN hlen
        have HEV := Aside0.mk eV
        have HN9 := Aside0.mk (show Kd.N (Kd.slice 3 (Kd.int .i64)) 22 wr w.heap.size (fun k => w.heap.size ≤ k ∧ k ≠ w.heap.size + 1 + 1) (.slice (some ⟨g, 0, none⟩) ys.length cap) ys from eV ▸ SS.out.hN)
        have hgO : g ≠ w.heap.size + 1 + 1 := (SS.out.hN.1 g (by rw [eV]; simp [Value.ownBlock])).2
        have HGO := Aside0.mk hgO
        have HG := Aside0.mk hg
        have h20 : ys.length ≤ 20 := by rw [HYF.out]; exact H20.out
        clear eV hgO hg hgl hys hlen
        go_wp2_with (go_at_call 117; rw [HEV.out]; refine (sort117 (show Kd.N (Kd.slice 3 (Kd.int .i64)) 22 _ w.heap.size (fun k => w.heap.size ≤ k ∧ k ≠ w.heap.size + 1 + 1) (.slice (some ⟨g, 0, none⟩) ys.length cap) ys by (repeat (first | with_reducible refine Kd.N_drewN ?_ _ | with_reducible refine Kd.N_drew ?_)); exact HN9.out) h20).mono ?_; rintro e w9 ⟨rfl, hs9⟩; have HS9 := Aside0.mk hs9; clear hs9; have hzO9 : w9.cell? ⟨w.heap.size + 1 + 1, 0, none⟩ = some v := (blk_cell ((HS9.out.2.1.2 _ (blk_lt SS.out.bO) (fun e => HGO.out e.symm)).trans SS.out.bO) 0).trans rfl)
        go_ret
        refine ⟨_, rfl, ?_, ?_⟩
        · rw [← HR.out, ← HYF.out, HEV.out]
          exact Kd.N_mono (ok := fun k => w.heap.size ≤ k ∧ k ≠ w.heap.size + 1 + 1) (by (repeat (first | with_reducible refine Kd.N_drewN ?_ _ | with_reducible refine Kd.N_drew ?_)); exact HS9.out.1) (fun _ hk => hk.1)
        · have hBB : Below w.heap.size w w9 := ⟨HS9.out.2.2.1.trans SS.out.hB.os, HS9.out.2.2.2.1.trans SS.out.hB.tape, HS9.out.2.2.2.2.trans SS.out.hB.output, Nat.le_trans SS.out.hB.size HS9.out.2.1.1, fun i hi => (HS9.out.2.1.2 i (Nat.lt_of_lt_of_le hi SS.out.hB.size) (fun e => by have := HG.out; omega)).trans (SS.out.hB.block i hi)⟩
          repeat (first | (with_reducible first | exact hBB | apply below_alloc | apply pw_below_drewN | apply below_drew1) | exact hBB)
end
end Go.Proofs.Ytfooakkhkehpiaa.PU
namespace Go.Proofs.Ytfooakkhkehpiaa.PU
open Go.RowKit Go.Proofs.YtfooakkhkehpiaaW.PrintWords Go.Proofs.YtfooakkhkehpiaaW.PrintLast Go.Proofs.YtfooakkhkehpiaaW.PrintMore Go.Proofs.Ytfooakkhkehpiaa.Qd
attribute [local go_sem] max2_int min2_int max_two min_two max_three min_three max_four min_four
set_option linter.unusedVariables false
set_option linter.unusedSimpArgs false
def impl_copyBook.l0 : Nat → List (List Int) → Int → Int → List Int → List (List Int) → Option (List Int × (List (List Int)))
 | 0, _, _, _, _, _ => none
 | k + 1, nx, fb, f6, ca8, be9 => if f6 < fb then (if 0 ≤ f6 then (if f6 < (nx.length : Int) then ((some (([] : List Int) : List Int)).bind fun t7 => (if t7.length + (rd_L1 nx f6).length < 17592186044416 then (if be9.length < 5864062014805 then (impl_copyBook.l0 k nx fb (wrap64 (f6 + 1)) ca8 (be9 ++ [(t7 ++ (rd_L1 nx f6))])) else (none)) else (none))) else (none)) else (none)) else (some (ca8, be9))
def impl_copyBook.f (k : Nat) (ab : List Int) (aa : List (List Int)) : Option (List Int × (List (List Int))) := (some (([] : List Int) : List Int)).bind fun ol => (if ol.length + ab.length < 17592186044416 then (impl_copyBook.l0 k aa (aa.length : Int) 0 (ol ++ ab) ([] : List (List Int))) else (none))
theorem impl_copyBook.mq {p : Prop} (h : p := by
 repeat' first
 | (with_reducible exact ih0 _ _ _ _ _)
 | (with_reducible exact LeO.refl _)
 | (with_reducible exact LeO.none _)
 | (with_reducible refine LeO.ite ?_ ?_)
 | (with_reducible refine LeO.bind ?_ (fun _ => ?_))
 | exact ih0 _ _ _ _ _
 | exact LeO.none _
 | refine LeO.ite ?_ ?_
 | refine LeO.bind ?_ (fun _ => ?_)) : p := h
theorem impl_copyBook.mono_l : ∀ k, (∀ y0 y1 y2 y3 y4, LeO (impl_copyBook.l0 k y0 y1 y2 y3 y4) (impl_copyBook.l0 (k + 1) y0 y1 y2 y3 y4))
 | 0 => fun _ _ _ _ _ r h => by simp [impl_copyBook.l0] at h
 | k + 1 => by
  have ih0 := impl_copyBook.mono_l k
  ·intro y0 y1 y2 y3 y4
   unfold impl_copyBook.l0
   exact impl_copyBook.mq
theorem impl_copyBook.mono : ∀ a0 a1 k, LeO (impl_copyBook.f k a0 a1) (impl_copyBook.f (k + 1) a0 a1) := by
 intro a0 a1 k
 have ih0 := impl_copyBook.mono_l k
 unfold impl_copyBook.f
 exact impl_copyBook.mq
def impl_copyBook.T5 : Bool × List (List Nat × List Nat) := (true, [([], []), ([0], [0]), ([], []), ([], []), ([2, 3], [2, 3]), ([4], [4]), ([1, 5, 4], [1, 5]), ([0, 1, 2, 3, 4, 5, 6], []), ([7, 6, 6, 0, 1, 2, 3, 4, 5, 6], [6, 7])])
def impl_copyBook.B5 : List Nat := [0, 1, 0, 0, 12, 28, 63, 127, 255]
theorem impl_copyBook.tab5 : rtab .any (opsOf Try.f111 5) = impl_copyBook.T5 := by kernel_rfl
theorem impl_copyBook.bits5 : waitsOk impl_copyBook.T5.2 impl_copyBook.B5 = true := by kernel_rfl
theorem iq {p : Prop} (h : p := by repeat (first | (with_reducible first | exact HB.out | apply below_alloc | apply pw_below_drewN | apply below_drew1 | refine below_set ?_ db8.out | refine below_set ?_ db9.out | refine below_set ?_ dc0.out) | exact HB.out)) : p := h
set_option maxHeartbeats 8000000 in
set_option maxRecDepth 100000 in
theorem impl_copyBook.calls (k : Nat) (ae : Option Addr) (ac : Nat) (ab : List Int) (ag : Option Addr) (af : Nat) (aa : List (List Int)) (r1 : List Int) (r2 : List (List Int)) (w : World) (bo : Kd.C (Kd.int .i64) w ae ab.length ab) (bs : ab.length ≤ ac) (bp : Kd.C (Kd.slice 3 (Kd.int .i64)) w ag aa.length aa) (bt : aa.length ≤ af) (h : impl_copyBook.f k ab aa = some (r1, r2)) :
  Calls Try.prog 111 #[.agg #[.slice ae ab.length ac, .slice ag aa.length af]] w fun e w' => ∃ v0_ v1_ : Value, e = .returned (.agg #[v0_, v1_]) ∧ Kd.R (Kd.int .i64) 3 w' w.heap.size (fun _ => True) v0_ r1 ∧ Kd.S (Kd.slice 3 (Kd.int .i64)) 22 w' w.heap.size (fun k_ => some k_ ≠ (v0_ : Value).ownBlock) v1_ r2 ∧ Below w.heap.size w w' := by
 have hu25 := Try.underlying25
 have bg := Aside0.mk bo
 have bx := Aside0.mk bs
 clear bo bs
 have bb := Aside0.mk bp
 have b2 := Aside0.mk bt
 clear bp bt
 have HB := Aside0.mk (Below.refl w.heap.size w)
 have H : ((some (([] : List Int) : List Int)).bind fun ol => (if ol.length + ab.length < 17592186044416 then (impl_copyBook.l0 k aa (aa.length : Int) 0 (ol ++ ab) ([] : List (List Int))) else (none))) = some (r1, r2) := h
 clear h
 obtain ⟨ol, hy329⟩ : ∃ y_ : List Int, y_ = (([] : List Int)) := ⟨_, rfl⟩
 replace H : (if ol.length + ab.length < 17592186044416 then (impl_copyBook.l0 k aa (aa.length : Int) 0 (ol ++ ab) ([] : List (List Int))) else (none)) = some (r1, r2) := by first | (rw [hy329]; with_reducible exact H) | (have H2_ := (Option.bind_some _ _).symm.trans H; rw [hy329]; with_reducible exact H2_) | (have H2_ := (Option.bind_some _ _).symm.trans H; with_reducible exact H2_) | with_reducible exact H | (rw [hy329]; exact H) | exact H
 have ca9 := Aside0.mk hy329
 clear hy329
 obtain ⟨c2, H⟩ := pos_ H
 have bf0 := Aside0.mk c2
 clear c2
 obtain ⟨fn, hy332⟩ : ∃ y_ : List Int, y_ = (ol ++ ab) := ⟨_, rfl⟩
 replace H : (impl_copyBook.l0 k aa (aa.length : Int) 0 fn ([] : List (List Int))) = some (r1, r2) := by first | (rw [hy332]; with_reducible exact H) | (have H2_ := (Option.bind_some _ _).symm.trans H; rw [hy332]; with_reducible exact H2_) | (have H2_ := (Option.bind_some _ _).symm.trans H; with_reducible exact H2_) | with_reducible exact H | (rw [hy332]; exact H) | exact H
 have dc1 := Aside0.mk hy332
 clear hy332
 have H' := Aside0.mk H
 clear H
 go_enter Try.func111, Try.ntmps111
 go_wp2_with (first | ((with_reducible refine gate_dst (N := 1) rfl ?_); refine bx_ (N := 1) #[.slice ae ab.length ac, .slice ag aa.length af] 25 ?_; intro kd hg w3 hbox hb; have ef := Aside0.mk (hbox); have eh6 := Aside0.mk ((g24_ : w.heap.size ≤ kd)); have db8 := Aside0.mk ((g24_ : w.heap.size ≤ kd)); replace HB := Aside0.mk (below_step (iq) hb); clear hb hbox hg) | ((with_reducible refine gate_dst (N := 2) rfl ?_); refine bx_ (N := 2) #[.slice none 0 0, .slice none 0 0] 25 ?_; intro il hg w4 hbox hb; have eu := Aside0.mk (hbox); have eh7 := Aside0.mk ((g24_ : w.heap.size ≤ il)); have db9 := Aside0.mk ((g24_ : w.heap.size ≤ il)); replace HB := Aside0.mk (below_step (iq) hb); have cb0 := Aside0.mk ((by rw [hg]; exact Nat.ne_of_lt (blk_lt (g := kd) (o := .cells #[.slice ae ab.length ac, .slice ag aa.length af] 25 (0, 0)) (uf0_ ef)) : kd ≠ il)); have cb1 := Aside0.mk ((by rw [hg]; exact Nat.ne_of_gt (blk_lt (g := kd) (o := .cells #[.slice ae ab.length ac, .slice ag aa.length af] 25 (0, 0)) (uf0_ ef)) : il ≠ kd)); replace ef := bb_ ef hb; clear hb hbox hg) | ((with_reducible refine gate_dst (N := 6) rfl ?_); refine Kd.R_lit (Kd.int .i64) _ 3 ?hg (N := 6) ?hd (xs := ([] : List Int)) (inner := []) (ok := fun _ => True) (okp := fun _ => True) ?hr ?hp (fun _ hk => hk) trivial (Below.refl _ _) (Nat.le_refl _) (by simp) ?_; (case hd => rfl); (case hg => rfl); (case hr => first | (go_simp; done) | (go_simp; rfl)); (case hp => exact (Reps.none _ _)); intro dc2 w5 nj hb hg_ hnew_; clear hg_ hnew_; (first | rw [← ca9.out] at nj | (simp only [Int.reduceToNat] at nj; rw [← ca9.out] at nj)); have am5 := Aside0.mk (Kd.R_lower nj (below_size (iq))); replace ef := bb_ ef hb; replace eu := bb_ eu hb; replace HB := Aside0.mk (below_step (iq) hb); clear hb nj; have dc3 := cb0.out; have dc4 := cb1.out; obtain ⟨js, jt, ju, jv⟩ := blk2_ ef) | ((with_reducible refine gate_builtin (b := .append) (xs := #[.tmp 6, .tmp 8]) rfl ?_); at_builtin; refine Kd.R_append_rows (Kd.int .i64) (w0 := w) w.heap.size rfl (.tmp 6) (.tmp 8) 22 3 (.int .i64 0) 8 rfl Try.underlying22 info3 rfl (by decide) (by omega) dc2 ol ab _ _ _ (fun _ => True) (fun _ => False) rfl rfl ?aO ?aR (fun _ _ h => h) (fun _ h => h.elim) ?aF ?aB ?aS ?aL ?_; (case aR => exact uf2_ bg); (case aB => exact (iq)); (case aF => exact (fun _ _ => trivial)); (case aO => exact (uf1_ am5)); (case aS => exact (below_size (iq))); (case aL => have := bf0.out; omega); intro eh8 w9 ho hb hg hat; rw [← dc1.out] at ho; replace ef := Aside0.mk (blk_grown (g := kd) (o := .cells #[.slice ae ab.length ac, .slice ag aa.length af] 25 (0, 0)) (uf0_ ef) hg (Kd.R_ne am5.out ef.out (by decide))); replace eu := Aside0.mk (blk_grown (g := il) (o := .cells #[.slice none 0 0, .slice none 0 0] 25 (0, 0)) (uf0_ eu) hg (Kd.R_ne am5.out eu.out (by decide))); replace HB := Aside0.mk (hb); have am6 := Aside0.mk (ho); clear am5; clear ho hb hg hat; obtain ⟨b4, b5, o7⟩ := Kd.R_slice am6.out; subst o7) | ((with_reducible refine gate_dst (N := 3) rfl ?_); refine bx_ (N := 3) #[.slice none 0 0, .slice none 0 0] 25 ?_; intro i1 hg w11 hbox hb; replace am6 := Aside0.mk (Kd.R_below (uf1_ am6) hb); have d2 := Aside0.mk (hbox); have eh9 := Aside0.mk ((g24_ : w.heap.size ≤ i1)); have dc0 := Aside0.mk ((g24_ : w.heap.size ≤ i1)); replace HB := Aside0.mk (below_step (iq) hb); have vz := Aside0.mk ((by rw [hg]; exact Nat.ne_of_lt (blk_lt (g := kd) (o := .cells #[.slice ae ab.length ac, .slice ag aa.length af] 25 (0, 0)) (uf0_ ef)) : kd ≠ i1)); have bf1 := Aside0.mk ((by rw [hg]; exact Nat.ne_of_gt (blk_lt (g := kd) (o := .cells #[.slice ae ab.length ac, .slice ag aa.length af] 25 (0, 0)) (uf0_ ef)) : i1 ≠ kd)); replace ef := bb_ ef hb; have we := Aside0.mk ((by rw [hg]; exact Nat.ne_of_lt (blk_lt (g := il) (o := .cells #[.slice none 0 0, .slice none 0 0] 25 (0, 0)) (uf0_ eu)) : il ≠ i1)); have bf2 := Aside0.mk ((by rw [hg]; exact Nat.ne_of_gt (blk_lt (g := il) (o := .cells #[.slice none 0 0, .slice none 0 0] 25 (0, 0)) (uf0_ eu)) : i1 ≠ il)); replace eu := bb_ eu hb; clear hb hbox hg; have am3 := bf1.out; have am4 := vz.out; have ah9 := bf2.out; have ai0 := we.out; obtain ⟨u2, u4, u6, u7⟩ := blk2_ d2; obtain ⟨ru, rv, rx, ry⟩ := blk2_ ef))
 go_loopg [14] k (fun kq v14 w' => ∃ (jo : Int) (l5 : List (List Int)) (nk : Value), v14 = .int .i64 jo ∧ Aside0 (impl_copyBook.l0 kq aa (aa.length : Int) jo fn l5 = some (r1, r2)) ∧ Aside0 (kq ≤ k) ∧ Aside0 (Kd.R (Kd.int .i64) 3 w' w.heap.size (fun _ => True) (.slice b4 fn.length b5) fn) ∧ Aside0 (Kd.S (Kd.slice 3 (Kd.int .i64)) 22 w' w.heap.size (fun k_ => some k_ ≠ ((.slice b4 fn.length b5) : Value).ownBlock) nk l5) ∧ Aside0 (w'.heap[kd]? = some (.cells #[(.slice ae ab.length ac), (.slice ag aa.length af)] 25 (0, 0))) ∧ Aside0 (w'.heap[il]? = some (.cells #[(.slice none 0 0), (.slice none 0 0)] 25 (0, 0))) ∧ Aside0 (w'.heap[i1]? = some (.cells #[(.slice b4 fn.length b5), nk] 25 (0, 0))) ∧ Aside0 (Below w.heap.size w w'))
 case atStart => exact ⟨(0), (([] : List (List Int))), (.slice none 0 0), (g2_), H', ⟨Nat.le_refl _⟩, ⟨by (with_reducible repeat (first | apply Kd.R_alloc | apply Kd.R_drewN | apply Kd.R_drew)); exact Kd.R_mono (Kd.R_far (p := ⟨i1, 1, none⟩) (Kd.R_far (p := ⟨i1, 0, none⟩) (Kd.R_types am6.out d2.out (by decide)) (fun _ hk => hk.2) (.slice b4 fn.length b5)) (fun _ hk => hk.2) (.slice none 0 0)) (fun _ hk => trivial)⟩, ⟨g13_⟩, ⟨by (with_reducible repeat (first | refine blk_drewN ?_ _ | refine blk_drew ?_ | refine blk_alloc ?_ _)); refine blk_far ?_ vz.out _; refine blk_far ?_ vz.out _; exact uf0_ ef⟩, ⟨by (with_reducible repeat (first | refine blk_drewN ?_ _ | refine blk_drew ?_ | refine blk_alloc ?_ _)); refine blk_far ?_ we.out _; refine blk_far ?_ we.out _; exact uf0_ eu⟩, ⟨by (with_reducible repeat (first | refine blk_drewN ?_ _ | refine blk_drew ?_ | refine blk_alloc ?_ _)); refine blk_put (cs := #[.slice b4 fn.length b5, .slice none 0 0]) ?_ 1 _ rfl; refine blk_put (cs := #[.slice none 0 0, .slice none 0 0]) ?_ 0 _ rfl; exact uf0_ d2⟩, ⟨iq⟩⟩
 case round =>
  clear H'
  try clear c1
  try clear c2
  try clear p2
  try clear c7
  try clear da
  try clear cu
  try clear eh
  try clear u2
  try clear u4
  try clear ru
  try clear rv
  try clear js
  try clear jt
  try clear u6
  try clear u7
  try clear rx
  try clear ry
  try clear ju
  try clear jv
  obtain ⟨jo, l5, nk, rfl, HA, HK1, ke, im, ef, eu, d2, HB⟩ := hrel
  cases gk with
  | zero => exact absurd HA.out (by simp [impl_copyBook.l0])
  | succ k1 =>
   have H := HA.out
   clear HA
   simp only [impl_copyBook.l0] at H
   by_cases dh : jo < (aa.length : Int)
   ·rw [if_pos dh] at H
    have ln := decide_eq_true dh
    clear dh
    obtain ⟨dp, H⟩ := pos_ H
    have ll := decide_eq_true dp
    clear dp
    obtain ⟨ix, H⟩ := pos_ H
    have yi := decide_eq_true ix
    clear ix
    obtain ⟨t7, hy337⟩ : ∃ y_ : List Int, y_ = (([] : List Int)) := ⟨_, rfl⟩
    replace H : (if t7.length + (rd_L1 aa jo).length < 17592186044416 then (if l5.length < 5864062014805 then (impl_copyBook.l0 k1 aa (aa.length : Int) (wrap64 (jo + 1)) fn (l5 ++ [(t7 ++ (rd_L1 aa jo))])) else (none)) else (none)) = some (r1, r2) := by first | (rw [hy337]; with_reducible exact H) | (have H2_ := (Option.bind_some _ _).symm.trans H; rw [hy337]; with_reducible exact H2_) | (have H2_ := (Option.bind_some _ _).symm.trans H; with_reducible exact H2_) | with_reducible exact H | (rw [hy337]; exact H) | exact H
    have cb2 := Aside0.mk hy337
    clear hy337
    obtain ⟨dd, H⟩ := pos_ H
    have dc5 := Aside0.mk dd
    clear dd
    obtain ⟨ab0, hy340⟩ : ∃ y_ : List Int, y_ = (t7 ++ (rd_L1 aa jo)) := ⟨_, rfl⟩
    replace H : (if l5.length < 5864062014805 then (impl_copyBook.l0 k1 aa (aa.length : Int) (wrap64 (jo + 1)) fn (l5 ++ [ab0])) else (none)) = some (r1, r2) := by first | (rw [hy340]; with_reducible exact H) | (have H2_ := (Option.bind_some _ _).symm.trans H; rw [hy340]; with_reducible exact H2_) | (have H2_ := (Option.bind_some _ _).symm.trans H; with_reducible exact H2_) | with_reducible exact H | (rw [hy340]; exact H) | exact H
    have dc6 := Aside0.mk hy340
    clear hy340
    obtain ⟨ed, H⟩ := pos_ H
    have al5 := Aside0.mk ed
    clear ed
    obtain ⟨ab1, hy343⟩ : ∃ y_ : List (List Int), y_ = (l5 ++ [ab0]) := ⟨_, rfl⟩
    replace H : (impl_copyBook.l0 k1 aa (aa.length : Int) (wrap64 (jo + 1)) fn ab1) = some (r1, r2) := by first | (rw [hy343]; with_reducible exact H) | (have H2_ := (Option.bind_some _ _).symm.trans H; rw [hy343]; with_reducible exact H2_) | (have H2_ := (Option.bind_some _ _).symm.trans H; with_reducible exact H2_) | with_reducible exact H | (rw [hy343]; exact H) | exact H
    have dc7 := Aside0.mk hy343
    clear hy343
    have H' := Aside0.mk H
    clear H
    have bf3 : 0 ≤ (jo : Int) := of_decide_eq_true (g0_)
    have bf4 : jo < (aa.length : Int) := of_decide_eq_true (g0_)
    obtain ⟨cb3, ei0, ei1, dc8, cb4, cb5, cb6⟩ := at_L1 bb.out jo bf3 bf4
    cases dc8
    replace cb4 := cl_ HB cb4
    have dc9 := Aside0.mk cb6
    have ei2 := Aside0.mk cb5
    clear cb6 cb5
    replace bf3 := eq_true bf3
    replace bf4 := eq_true bf4
    try go_wp2
    replace ke := Aside0.mk (Kd.R_drew ke.out)
    replace im := Aside0.mk (Kd.S_drew im.out)
    replace ef := Aside0.mk (blk_drew ef.out)
    replace eu := Aside0.mk (blk_drew eu.out)
    replace d2 := Aside0.mk (blk_drew d2.out)
    replace HB := Aside0.mk (below_drew1 HB.out)
    refine start_ (n := 9) (S := fun w' => w'.cell? ⟨i1, 0, none⟩ = some (.slice b4 fn.length b5) ∧ w'.cell? ⟨i1, 1, none⟩ = some (nk)) (ds := [8]) (tl_ 9 0) (g1_) rfl (g1_) ⟨(blk_cell d2.out 0).trans rfl, (blk_cell d2.out 1).trans rfl⟩ (fun hHeld => ?_); refine with_tabW impl_copyBook.tab5 impl_copyBook.bits5 (fun HT_ HW_ => ?_)
    generalize wr.drew = tx at ke im ef eu d2 HB hHeld ⊢
    refine pw_ 0 18 (tl_ 9 1) rfl rfl ?_
    refine pw_ 3 21 (tl_ 9 9) rfl rfl ?_
    refine tk0_ 1 19 (tl_ 9 11) rfl rfl hHeld ?_
    refine one_ (i := 2) (N := some 20) (tl_ 9 15) rfl rfl (one_of HT_.out (g1_)) (by decide) (fun K hK => ?_)
    refine Kd.R_lit_step (Kd.int .i64) _ 3 ?hg (N := 20) ?hd (xs := ([] : List Int)) (inner := []) (ok := fun _ => True) (okp := fun _ => True) ?hr ?hp (fun _ hk => hk) trivial (Below.refl _ _) (Nat.le_refl _) (by simp) ?_; (case hd => rfl); (case hg => rfl); (case hr => first | (go_simp; done) | (go_simp; rfl)); (case hp => exact (Reps.none _ _))
    intro dd0 zo gd hb hg_ hnew_
    clear hg_ hnew_
    (first | rw [← cb2.out] at gd | (simp only [Int.reduceToNat] at gd; rw [← cb2.out] at gd))
    replace im := Aside0.mk (Kd.S_elder' (uf3_ im) (Kd.R_base gd) hb)
    have ab2 := Aside0.mk (Kd.R_lower (Kd.R_new' gd (Kd.R_lt (uf1_ ke))) (below_size (iq)))
    replace ke := Aside0.mk (Kd.R_elder' (uf1_ ke) (Kd.R_base gd) hb)
    replace ef := bb_ ef hb
    replace eu := bb_ eu hb
    replace d2 := bb_ d2 hb
    replace HB := Aside0.mk (below_step (iq) hb)
    clear hb gd
    refine hK.out _ _ ⟨(blk_cell d2.out 0).trans rfl, (blk_cell d2.out 1).trans rfl⟩ (fun hHeld => ?_)
    clear hK K
    refine nm_ ?_
    refine one_ (i := 4) (N := some 22) (tl_ 9 31) rfl rfl (one_of HT_.out (g1_)) (by decide) (fun K hK => ?_)
    refine Kd.R_append_rows_step (Kd.int .i64) (w0 := w) w.heap.size (by rfl) (.tmp 20) (.tmp 21) 22 3 (.int .i64 0) 8 rfl Try.underlying22 info3 rfl (by decide) (by omega) dd0 t7 (rd_L1 aa jo) _ _ _ (fun k_ => some k_ ≠ (.slice b4 fn.length b5 : Value).ownBlock) (fun _ => False) rfl rfl ?aO ?aR (fun _ _ h => h) (fun _ h => h.elim) ?aF ?aB ?aS ?aL ?_
    (case aR => exact uf2_ dc9)
    (case aB => exact (iq))
    (case aF => exact (fun k_ hk => Kd.fresh' (Kd.R_lt (uf1_ ke)) k_ hk))
    (case aO => exact (by (with_reducible repeat (first | apply Kd.R_alloc | apply Kd.R_drewN | apply Kd.R_drew)); exact Kd.R_mono ab2.out (fun _ hk => hk.2)))
    (case aS => exact (below_size (iq)))
    (case aL => have := dc5.out; omega)
    intro ei3 yo ho hb hg hat
    rw [← dc6.out] at ho
    replace ke := Aside0.mk (Kd.R_after (ok := (fun _ => True)) (uf1_ ke) hg hat)
    replace im := Aside0.mk (Kd.S_after (ok := (fun k_ => some k_ ≠ (.slice b4 fn.length b5 : Value).ownBlock)) (uf3_ im) hg hat)
    replace ef := Aside0.mk (blk_grown (g := kd) (o := .cells #[.slice ae ab.length ac, .slice (some cb3) aa.length af] 25 (0, 0)) (uf0_ ef) hg (Kd.R_ne ab2.out ef.out (by decide)))
    replace eu := Aside0.mk (blk_grown (g := il) (o := .cells #[.slice none 0 0, .slice none 0 0] 25 (0, 0)) (uf0_ eu) hg (Kd.R_ne ab2.out eu.out (by decide)))
    replace d2 := Aside0.mk (blk_grown (g := i1) (o := .cells #[.slice b4 fn.length b5, nk] 25 (0, 0)) (uf0_ d2) hg (Kd.R_ne ab2.out d2.out (by decide)))
    replace HB := Aside0.mk (hb)
    have am7 := Aside0.mk (ho)
    clear ab2
    clear ho hb hg hat
    obtain ⟨am8, am9, an0⟩ := Kd.R_slice am7.out
    (first | subst an0 | (injection an0 with f1_ f2_ f3_; have f4_ := f1_.symm; have f5_ := f3_.symm; clear f1_ f2_ f3_; subst f4_; subst f5_))
    refine hK.out _ _ ⟨(blk_cell d2.out 0).trans rfl, (blk_cell d2.out 1).trans rfl⟩ (fun hHeld => ?_)
    clear hK K
    refine nm_ ?_
    refine one_ (i := 5) (N := some 23) (tl_ 9 63) rfl rfl (one_of HT_.out (g1_)) (by decide) (fun K hK => ?_)
    refine value_ (w1 := ?_) (v := ?_) (by rfl) rfl ?_ ?_
    rotate_left 2
    ·go_simp
     constructor
     ·rfl
     ·rfl
    refine hK.out _ _ ⟨(blk_cell (blk_alloc d2.out _) 0).trans rfl, (blk_cell (blk_alloc d2.out _) 1).trans rfl⟩ (fun hHeld => ?_)
    clear hK K
    refine nm_ ?_
    refine one_ (i := 6) (N := some 24) (tl_ 9 127) rfl rfl (one_of HT_.out (g1_)) (by decide) (fun K hK => ?_)
    refine Kd.S_append_step (Kd.slice 3 (Kd.int .i64)) (w0 := w) w.heap.size (by rfl) (.tmp 19) (.tmp 23) 23 22 (.slice none 0 0) 24 rfl Try.underlying23 info22 rfl (by decide) (by omega) nk l5 ab0 [.slice am8 ab0.length am9] (fun k_ => some k_ ≠ (.slice b4 fn.length b5 : Value).ownBlock) (fun k_ => some k_ = (.slice am8 ab0.length am9 : Value).ownBlock) rfl rfl ?aP (fun k_ hk_ => ((Kd.R_mono (ok' := fun k_ => ((fun k_ => some k_ ≠ (.slice b4 fn.length b5 : Value).ownBlock)) k_ ∧ some k_ ≠ (nk : Value).ownBlock) (Kd.R_apart' (am7.out) (Kd.S_typed im.out) (by decide)) (fun k_ hk => ⟨hk.1, hk.2⟩))).1 k_ hk_.symm) ?aF ?aO ?aB ?aS ?aL ?_
    (case aP => exact Kd.M_row (Kd.R_mono (Kd.R_tight rfl (Kd.R_mono (ok' := fun k_ => ((fun k_ => some k_ ≠ (.slice b4 fn.length b5 : Value).ownBlock)) k_ ∧ some k_ ≠ (nk : Value).ownBlock) (Kd.R_apart' (am7.out) (Kd.S_typed im.out) (by decide)) (fun k_ hk => ⟨hk.1, hk.2⟩))) (fun _ h_ => h_)))
    (case aB => exact (iq))
    (case aF => exact (fun k_ hk => Kd.fresh' (Kd.R_lt (uf1_ ke)) k_ hk))
    (case aO => exact (by (with_reducible repeat (first | apply Kd.S_alloc | apply Kd.S_drewN | apply Kd.S_drew)); exact Kd.S_mono im.out (fun k_ hk => ⟨hk.1, fun e_ => hk.2 e_⟩)))
    (case aS => exact (below_size (iq)))
    (case aL => have := al5.out; omega)
    intro ei4 ms ho hb hg hat
    rw [← dc7.out] at ho
    replace ke := Aside0.mk (Kd.R_over' (uf1_ ke) (Kd.S_typed (uf3_ im)) (by decide) hg)
    replace ef := Aside0.mk (blk_grown (g := kd) (o := .cells #[.slice ae ab.length ac, .slice (some cb3) aa.length af] 25 (0, 0)) (uf0_ ef) hg (Kd.S_ne im.out ef.out (by decide)))
    replace eu := Aside0.mk (blk_grown (g := il) (o := .cells #[.slice none 0 0, .slice none 0 0] 25 (0, 0)) (uf0_ eu) hg (Kd.S_ne im.out eu.out (by decide)))
    replace d2 := Aside0.mk (blk_grown (g := i1) (o := .cells #[.slice b4 fn.length b5, nk] 25 (0, 0)) (uf0_ d2) hg (Kd.S_ne im.out d2.out (by decide)))
    replace HB := Aside0.mk (hb)
    have cb7 := Aside0.mk (ho)
    clear im am7
    clear ho hb hg hat
    obtain ⟨wg, wh, ab3⟩ := Kd.S_slice cb7.out
    (first | subst ab3 | (injection ab3 with f1_ f2_ f3_; have f4_ := f1_.symm; have f5_ := f3_.symm; clear f1_ f2_ f3_; subst f4_; subst f5_))
    refine hK.out _ _ ⟨(blk_cell d2.out 0).trans rfl, (blk_cell d2.out 1).trans rfl⟩ (fun hHeld => ?_)
    clear hK K
    refine nm_ ?_
    refine pw_ 7 25 (tl_ 9 255) rfl rfl ?_
    refine last_ (i := 8) (N := none) (tl_ 9 511) rfl rfl (one_of HT_.out (g1_)) (by decide) (fun K hK => ?_)
    have ei5 : ms.cell? ⟨i1, 1, none⟩ = some (nk) := (blk_cell d2.out 1).trans rfl
    have ei6 := blk_frozen d2.out 1
    have ei7 := vz.out
    have ei8 := we.out
    have ei9 := bf1.out
    have ej0 := bf2.out
    refine skip_ (w1 := ?_) (by rfl) rfl ?_ ?_
    rotate_left
    ·go_simp
     rfl
    refine hK.out _ _ ?_
    clear hK K
    refine done_ (done_of HT_.out (g1_)) ?_
    try go_wp2
    go_roundg k1
    case measure => have := HK1.out; omega
    case rel => exact ⟨(wrap64 (jo + 1)), (ab1), (.slice wg ab1.length wh), (g2_), H', ⟨g8_⟩, ⟨by (with_reducible repeat (first | apply Kd.R_alloc | apply Kd.R_drewN | apply Kd.R_drew)); exact Kd.R_mono (Kd.R_far (p := ⟨i1, 1, none⟩) (Kd.R_types ke.out d2.out (by decide)) (fun _ hk => hk.2) (.slice wg ab1.length wh)) (fun _ hk => trivial)⟩, ⟨by (with_reducible repeat (first | apply Kd.S_alloc | apply Kd.S_drewN | apply Kd.S_drew)); exact Kd.S_mono (Kd.S_far (p := ⟨i1, 1, none⟩) (Kd.S_types cb7.out d2.out (by decide)) (fun _ hk => hk.2) (.slice wg ab1.length wh)) (fun _ hk => hk.1)⟩, ⟨by (with_reducible repeat (first | refine blk_drewN ?_ _ | refine blk_drew ?_ | refine blk_alloc ?_ _)); refine blk_far ?_ vz.out _; exact uf0_ ef⟩, ⟨by (with_reducible repeat (first | refine blk_drewN ?_ _ | refine blk_drew ?_ | refine blk_alloc ?_ _)); refine blk_far ?_ we.out _; exact uf0_ eu⟩, ⟨by (with_reducible repeat (first | refine blk_drewN ?_ _ | refine blk_drew ?_ | refine blk_alloc ?_ _)); refine blk_put (cs := #[.slice b4 fn.length b5, nk]) ?_ 1 _ rfl; exact uf0_ d2⟩, ⟨iq⟩⟩
   ·rw [if_neg dh] at H
    have ln := decide_eq_false dh
    clear dh
    simp only [Option.some.injEq, Prod.mk.injEq] at H
    obtain ⟨rfl, rfl⟩ := H
    have dd1 := bf1.out
    have dd2 := vz.out
    have cb8 := bf2.out
    have cb9 := we.out
    obtain ⟨bw2, bw3, bw4, bw5⟩ := blk2_ d2
    have ej1 := cb1.out
    have ej2 := cb0.out
    obtain ⟨dd3, dd4, dd5, dd6⟩ := blk2_ eu
    obtain ⟨bf5, bf6, dd7⟩ := Kd.S_slice im.out
    subst dd7
    go_wp2
    refine bodyPost_ret (results_cell_row rfl _ _ il 25 #[.slice b4 fn.length b5, .slice bf5 l5.length bf6] (0, 0) _ rfl (by (with_reducible repeat (first | refine blk_drewN ?_ _ | refine blk_drew ?_ | refine blk_alloc ?_ _)); refine blk_put (cs := #[.slice b4 fn.length b5, .slice none 0 0]) ?_ 1 _ rfl; refine blk_put (cs := #[.slice none 0 0, .slice none 0 0]) ?_ 0 _ rfl; exact uf0_ eu) Try.underlying25 rfl (g1_)) rfl ?_
    exact ⟨_, _, g4_, by (with_reducible repeat (first | apply Kd.R_alloc | apply Kd.R_drewN | apply Kd.R_drew)); exact Kd.R_mono (Kd.R_far (p := ⟨il, 1, none⟩) (Kd.R_far (p := ⟨il, 0, none⟩) (Kd.R_types ke.out eu.out (by decide)) (fun _ hk => hk.2) (.slice b4 fn.length b5)) (fun _ hk => hk.2) (.slice bf5 l5.length bf6)) (fun _ hk => trivial), by (with_reducible repeat (first | apply Kd.S_alloc | apply Kd.S_drewN | apply Kd.S_drew)); exact Kd.S_mono (Kd.S_far (p := ⟨il, 1, none⟩) (Kd.S_far (p := ⟨il, 0, none⟩) (Kd.S_types im.out eu.out (by decide)) (fun _ hk => hk.2) (.slice b4 fn.length b5)) (fun _ hk => hk.2) (.slice bf5 l5.length bf6)) (fun _ hk => hk.1), iq⟩
mutual
def impl_struckOut.l0 : Nat → List Int → Int → List Int → Int → Int → List Int → List (List Int) → List Int → List (List Int) → Option (List Int × (List (List Int)))
 | 0, _, _, _, _, _, _, _, _, _ => none
 | k + 1, x1, x6, fb, f6, dt, dd8, an1, ab4, p7 => if dt < f6 then (if 0 ≤ dt then (if dt < (fb.length : Int) then (if 0 ≤ (rd fb dt) then (if (rd fb dt) < (an1.length : Int) then (if (x1.length : Int) = 0 then (none) else (if 0 ≤ (Int.tmod (wrap64 (dt + 1)) (x1.length : Int)) then (if (Int.tmod (wrap64 (dt + 1)) (x1.length : Int)) < (x1.length : Int) then (if 0 ≤ (rd x1 (Int.tmod (wrap64 (dt + 1)) (x1.length : Int))) then (if (rd x1 (Int.tmod (wrap64 (dt + 1)) (x1.length : Int))) < ((rd_L1 an1 (rd fb dt)).length : Int) then (impl_struckOut.l0 k x1 (mn x6 (rd (rd_L1 an1 (rd fb dt)) (rd x1 (Int.tmod (wrap64 (dt + 1)) (x1.length : Int))))) fb f6 (wrap64 (dt + 1)) dd8 an1 ab4 p7) else (none)) else (none)) else (none)) else (none))) else (none)) else (none)) else (none)) else (none)) else (impl_struckOut.l1 k x1 x6 x1 (x1.length : Int) 0 ab4 p7)
def impl_struckOut.l1 : Nat → List Int → Int → List Int → Int → Int → List Int → List (List Int) → Option (List Int × (List (List Int)))
 | 0, _, _, _, _, _, _, _ => none
 | k + 1, x1, x6, ro, x39, i2, ab4, p7 => if i2 < x39 then (if 0 ≤ i2 then (if i2 < (ro.length : Int) then (if 0 ≤ (rd ro i2) then (if (rd ro i2) < (p7.length : Int) then (if (x1.length : Int) = 0 then (none) else (if 0 ≤ (Int.tmod (wrap64 (i2 + 1)) (x1.length : Int)) then (if (Int.tmod (wrap64 (i2 + 1)) (x1.length : Int)) < (x1.length : Int) then (if 0 ≤ (rd x1 (Int.tmod (wrap64 (i2 + 1)) (x1.length : Int))) then (if (rd x1 (Int.tmod (wrap64 (i2 + 1)) (x1.length : Int))) < ((rd_L1 p7 (rd ro i2)).length : Int) then (impl_struckOut.l1 k x1 x6 ro x39 (wrap64 (i2 + 1)) ab4 (p7.set ((rd ro i2) : Int).toNat ((rd_L1 p7 (rd ro i2)).set ((rd x1 (Int.tmod (wrap64 (i2 + 1)) (x1.length : Int))) : Int).toNat (wrap64 ((rd (rd_L1 p7 (rd ro i2)) (rd x1 (Int.tmod (wrap64 (i2 + 1)) (x1.length : Int)))) - x6))))) else (none)) else (none)) else (none)) else (none))) else (none)) else (none)) else (none)) else (none)) else (some (ab4, p7))
end
def impl_struckOut.f (k : Nat) (ab : List Int) (aa : List (List Int)) (l1 : List Int) : Option (List Int × (List (List Int))) := (impl_copyBook.f k ab aa).bind fun bt348 => (impl_struckOut.l0 k l1 9 l1 (l1.length : Int) 0 ab aa bt348.1 bt348.2)
theorem impl_struckOut.mq {p : Prop} (h : p := by
 repeat' first
 | (with_reducible exact ih0 _ _ _ _ _ _ _ _ _)
 | (with_reducible exact ih1 _ _ _ _ _ _ _)
 | (with_reducible exact impl_copyBook.mono _ _ _)
 | (with_reducible exact LeO.refl _)
 | (with_reducible exact LeO.none _)
 | (with_reducible refine LeO.ite ?_ ?_)
 | (with_reducible refine LeO.bind ?_ (fun _ => ?_))
 | exact ih0 _ _ _ _ _ _ _ _ _
 | exact ih1 _ _ _ _ _ _ _
 | exact impl_copyBook.mono _ _ _
 | exact LeO.none _
 | refine LeO.ite ?_ ?_
 | refine LeO.bind ?_ (fun _ => ?_)) : p := h
theorem impl_struckOut.mono_l : ∀ k, (∀ y0 y1 y2 y3 y4 y5 y6 y7 y8, LeO (impl_struckOut.l0 k y0 y1 y2 y3 y4 y5 y6 y7 y8) (impl_struckOut.l0 (k + 1) y0 y1 y2 y3 y4 y5 y6 y7 y8)) ∧ (∀ y0 y1 y2 y3 y4 y5 y6, LeO (impl_struckOut.l1 k y0 y1 y2 y3 y4 y5 y6) (impl_struckOut.l1 (k + 1) y0 y1 y2 y3 y4 y5 y6))
 | 0 => ⟨fun _ _ _ _ _ _ _ _ _ r h => by simp [impl_struckOut.l0] at h, fun _ _ _ _ _ _ _ r h => by simp [impl_struckOut.l1] at h⟩
 | k + 1 => by
  obtain ⟨ih0, ih1⟩ := impl_struckOut.mono_l k
  refine ⟨?_, ?_⟩
  ·intro y0 y1 y2 y3 y4 y5 y6 y7 y8
   unfold impl_struckOut.l0
   exact impl_struckOut.mq
  ·intro y0 y1 y2 y3 y4 y5 y6
   unfold impl_struckOut.l1
   exact impl_struckOut.mq
theorem impl_struckOut.mono : ∀ a0 a1 a2 k, LeO (impl_struckOut.f k a0 a1 a2) (impl_struckOut.f (k + 1) a0 a1 a2) := by
 intro a0 a1 a2 k
 obtain ⟨ih0, ih1⟩ := impl_struckOut.mono_l k
 unfold impl_struckOut.f
 exact impl_struckOut.mq
def impl_struckOut.T6 : Bool × List (List Nat × List Nat) := (true, [([], []), ([], []), ([1], [1]), ([], []), ([2, 3], [2, 3]), ([4], [4]), ([], []), ([], []), ([7], [7]), ([], []), ([9], [9]), ([8, 10], [8, 10]), ([6, 11], [6, 11]), ([12], [12]), ([5, 13], [5, 13]), ([14], [14]), ([0, 15], [0, 15]), ([16, 0, 1, 2, 3, 4, 5, 6, 7, 8, 9, 10, 11, 12, 13, 14, 15, 16], [0, 16])])
def impl_struckOut.B6 : List Nat := [0, 0, 2, 0, 14, 30, 0, 0, 128, 0, 512, 1920, 4032, 8128, 16382, 32766, 65535, 131071]
theorem impl_struckOut.tab6 : rtab .any (opsOf Try.f97 6) = impl_struckOut.T6 := by kernel_rfl
theorem impl_struckOut.bits6 : waitsOk impl_struckOut.T6.2 impl_struckOut.B6 = true := by kernel_rfl
def impl_struckOut.T11 : Bool × List (List Nat × List Nat) := (true, [([], []), ([0], [0]), ([], []), ([1, 2], [1, 2]), ([3], [3]), ([], []), ([], []), ([6], [6]), ([], []), ([8], [8]), ([7, 9], [7, 9]), ([5, 10], [5, 10]), ([11], [11]), ([4, 12], [4, 12]), ([13], [13]), ([], []), ([14, 15], [14, 15]), ([4, 12, 0, 1, 2, 3, 4, 5, 6, 7, 8, 9, 10, 11, 12, 13, 14, 15, 16], [4, 12]), ([17, 16, 0, 1, 2, 3, 4, 5, 6, 7, 8, 9, 10, 11, 12, 13, 14, 15, 16], [16, 17])])
def impl_struckOut.B11 : List Nat := [0, 1, 0, 7, 15, 0, 0, 64, 0, 256, 960, 2016, 4064, 8191, 16383, 0, 65535, 131071, 262143]
theorem impl_struckOut.tab11 : rtab .any (opsOf Try.f97 11) = impl_struckOut.T11 := by kernel_rfl
theorem impl_struckOut.bits11 : waitsOk impl_struckOut.T11.2 impl_struckOut.B11 = true := by kernel_rfl
theorem ma {p : Prop} (h : p := by repeat (first | (with_reducible first | exact HB.out | apply below_alloc | apply pw_below_drewN | apply below_drew1 | refine below_set ?_ dd9.out | refine below_set ?_ de0.out | refine below_set ?_ de1.out | refine below_set ?_ GB39.out) | exact HB.out)) : p := h
set_option maxHeartbeats 8000000 in
set_option maxRecDepth 100000 in
theorem impl_struckOut.calls (k : Nat) (ae : Option Addr) (ac : Nat) (ab : List Int) (ag : Option Addr) (af : Nat) (aa : List (List Int)) (A1 : Option Addr) (c1 : Nat) (l1 : List Int) (r1 : List Int) (r2 : List (List Int)) (w : World) (bo : Kd.C (Kd.int .i64) w ae ab.length ab) (bs : ab.length ≤ ac) (bp : Kd.C (Kd.slice 3 (Kd.int .i64)) w ag aa.length aa) (bt : aa.length ≤ af) (er : Kd.C (Kd.int .i64) w A1 l1.length l1) (ey : l1.length ≤ c1) (h : impl_struckOut.f k ab aa l1 = some (r1, r2)) :
  Calls Try.prog 97 #[.agg #[.slice ae ab.length ac, .slice ag aa.length af], .slice A1 l1.length c1] w fun e w' => ∃ v0_ v1_ : Value, e = .returned (.agg #[v0_, v1_]) ∧ Kd.R (Kd.int .i64) 3 w' w.heap.size (fun _ => True) v0_ r1 ∧ Kd.S (Kd.slice 3 (Kd.int .i64)) 22 w' w.heap.size (fun k_ => some k_ ≠ (v0_ : Value).ownBlock) v1_ r2 ∧ Below w.heap.size w w' := by
 have hu25 := Try.underlying25
 have bg := Aside0.mk bo
 have bx := Aside0.mk bs
 clear bo bs
 have bb := Aside0.mk bp
 have b2 := Aside0.mk bt
 clear bp bt
 have dc := Aside0.mk er
 have uz := Aside0.mk ey
 clear er ey
 have HB := Aside0.mk (Below.refl w.heap.size w)
 have H : ((impl_copyBook.f k ab aa).bind fun bt348 => (impl_struckOut.l0 k l1 9 l1 (l1.length : Int) 0 ab aa bt348.1 bt348.2)) = some (r1, r2) := h
 clear h
 replace H := Option.bind_eq_some_iff.mp H
 obtain ⟨⟨la, nl⟩, j3, H⟩ := H
 try dsimp only at H
 have A3 := Aside0.mk j3
 clear j3
 have H' := Aside0.mk H
 clear H
 go_enter Try.func97, Try.ntmps97
 go_wp2_with (first | ((with_reducible refine gate_dst (N := 2) rfl ?_); refine bx_ (N := 2) #[.slice ae ab.length ac, .slice ag aa.length af] 25 ?_; intro kf hg w4 hbox hb; have e8 := Aside0.mk (hbox); have ej3 := Aside0.mk ((g25_ : w.heap.size ≤ kf)); have dd9 := Aside0.mk ((g25_ : w.heap.size ≤ kf)); replace HB := Aside0.mk (below_step (ma) hb); clear hb hbox hg) | ((with_reducible refine gate_dst (N := 4) rfl ?_); refine bx_ (N := 4) #[.slice none 0 0, .slice none 0 0] 25 ?_; intro jp hg w5 hbox hb; have fu := Aside0.mk (hbox); have ej4 := Aside0.mk ((g25_ : w.heap.size ≤ jp)); have de0 := Aside0.mk ((g25_ : w.heap.size ≤ jp)); replace HB := Aside0.mk (below_step (ma) hb); have cc0 := Aside0.mk ((by rw [hg]; exact Nat.ne_of_lt (blk_lt (g := kf) (o := .cells #[.slice ae ab.length ac, .slice ag aa.length af] 25 (0, 0)) (uf0_ e8)) : kf ≠ jp)); have cc1 := Aside0.mk ((by rw [hg]; exact Nat.ne_of_gt (blk_lt (g := kf) (o := .cells #[.slice ae ab.length ac, .slice ag aa.length af] 25 (0, 0)) (uf0_ e8)) : jp ≠ kf)); replace e8 := bb_ e8 hb; clear hb hbox hg; have de2 := cc0.out; have de3 := cc1.out; obtain ⟨i8, i9, ja, jb⟩ := blk2_ e8) | ((with_reducible refine gate_callee (f := 111) rfl ?_); refine goesL_ (some 12) rfl rfl Try.func111 k_ rfl #[.agg #[.slice ae ab.length ac, .slice ag aa.length af]] rfl (g3_) ?_; (with_reducible refine (impl_copyBook.calls k _ _ ab _ _ aa la nl _ ?side1 ?side2 ?side3 ?side4 A3.out).mono ?_); (case side1 => exact uf2_ bg); (case side2 => exact bx.out); (case side3 => exact uf2_ bb); (case side4 => exact b2.out); rintro e w8 ⟨ej5, ej6, rfl, aj, em, hb⟩; refine ⟨_, rfl, ?_⟩; have an2 := Aside0.mk (Kd.R_lower aj (below_size (ma))); have an3 := Aside0.mk (Kd.S_lower em (below_size (ma))); replace e8 := bb_ e8 hb; replace fu := bb_ fu hb; replace HB := Aside0.mk (below_step (ma) hb); (try clear hb); (try clear hk hi); (try clear aj); (try clear em)) | ((with_reducible refine gate_dst (N := 5) rfl ?_); refine bx_ (N := 5) #[.slice none 0 0, .slice none 0 0] 25 ?_; intro kg hg w9 hbox hb; replace an2 := Aside0.mk (Kd.R_below (uf1_ an2) hb); replace an3 := Aside0.mk (Kd.S_below (uf3_ an3) hb); have gv := Aside0.mk (hbox); have ej7 := Aside0.mk ((g25_ : w.heap.size ≤ kg)); have de1 := Aside0.mk ((g25_ : w.heap.size ≤ kg)); replace HB := Aside0.mk (below_step (ma) hb); have an4 := Aside0.mk ((by rw [hg]; exact Nat.ne_of_lt (blk_lt (g := kf) (o := .cells #[.slice ae ab.length ac, .slice ag aa.length af] 25 (0, 0)) (uf0_ e8)) : kf ≠ kg)); have cc2 := Aside0.mk ((by rw [hg]; exact Nat.ne_of_gt (blk_lt (g := kf) (o := .cells #[.slice ae ab.length ac, .slice ag aa.length af] 25 (0, 0)) (uf0_ e8)) : kg ≠ kf)); replace e8 := bb_ e8 hb; have an5 := Aside0.mk ((by rw [hg]; exact Nat.ne_of_lt (blk_lt (g := jp) (o := .cells #[.slice none 0 0, .slice none 0 0] 25 (0, 0)) (uf0_ fu)) : jp ≠ kg)); have cc3 := Aside0.mk ((by rw [hg]; exact Nat.ne_of_gt (blk_lt (g := jp) (o := .cells #[.slice none 0 0, .slice none 0 0] 25 (0, 0)) (uf0_ fu)) : kg ≠ jp)); replace fu := bb_ fu hb; clear hb hbox hg; obtain ⟨b4, b5, o7⟩ := Kd.R_slice an2.out; subst o7; have cc4 := cc2.out; have cc5 := an4.out; have am3 := cc3.out; have am4 := an5.out; obtain ⟨lh, li, lj, lk⟩ := blk2_ gv; obtain ⟨bj, be, ny⟩ := Kd.S_slice an3.out; subst ny))
 go_loopg [6, 15] k (fun kq v6 xo w' => ∃ (d3 : Int) (a7 : Int), v6 = .int .i64 d3 ∧ xo = .int .i64 a7 ∧ Aside0 (impl_struckOut.l0 kq l1 d3 l1 (l1.length : Int) a7 ab aa la nl = some (r1, r2)) ∧ Aside0 (kq ≤ k) ∧ Aside0 (Kd.R (Kd.int .i64) 3 w' w.heap.size (fun _ => True) (.slice b4 la.length b5) la) ∧ Aside0 (Kd.S (Kd.slice 3 (Kd.int .i64)) 22 w' w.heap.size (fun k_ => some k_ ≠ ((.slice b4 la.length b5) : Value).ownBlock) (.slice bj nl.length be) nl) ∧ Aside0 (w'.heap[kf]? = some (.cells #[(.slice ae ab.length ac), (.slice ag aa.length af)] 25 (0, 0))) ∧ Aside0 (w'.heap[jp]? = some (.cells #[(.slice none 0 0), (.slice none 0 0)] 25 (0, 0))) ∧ Aside0 (w'.heap[kg]? = some (.cells #[(.slice b4 la.length b5), (.slice bj nl.length be)] 25 (0, 0))) ∧ Aside0 (Below w.heap.size w w'))
 case atStart => exact ⟨(9), (0), (g2_), (g2_), H', ⟨Nat.le_refl _⟩, ⟨by (with_reducible repeat (first | apply Kd.R_alloc | apply Kd.R_drewN | apply Kd.R_drew)); exact Kd.R_mono (Kd.R_far (p := ⟨kg, 1, none⟩) (Kd.R_far (p := ⟨kg, 0, none⟩) (Kd.R_types an2.out gv.out (by decide)) (fun _ hk => hk.2) (.slice b4 la.length b5)) (fun _ hk => hk.2) (.slice bj nl.length be)) (fun _ hk => trivial)⟩, ⟨by (with_reducible repeat (first | apply Kd.S_alloc | apply Kd.S_drewN | apply Kd.S_drew)); exact Kd.S_mono (Kd.S_far (p := ⟨kg, 1, none⟩) (Kd.S_far (p := ⟨kg, 0, none⟩) (Kd.S_types an3.out gv.out (by decide)) (fun _ hk => hk.2) (.slice b4 la.length b5)) (fun _ hk => hk.2) (.slice bj nl.length be)) (fun _ hk => hk.1)⟩, ⟨by (with_reducible repeat (first | refine blk_drewN ?_ _ | refine blk_drew ?_ | refine blk_alloc ?_ _)); refine blk_far ?_ an4.out _; refine blk_far ?_ an4.out _; exact uf0_ e8⟩, ⟨by (with_reducible repeat (first | refine blk_drewN ?_ _ | refine blk_drew ?_ | refine blk_alloc ?_ _)); refine blk_far ?_ an5.out _; refine blk_far ?_ an5.out _; exact uf0_ fu⟩, ⟨by (with_reducible repeat (first | refine blk_drewN ?_ _ | refine blk_drew ?_ | refine blk_alloc ?_ _)); refine blk_put (cs := #[.slice b4 la.length b5, .slice none 0 0]) ?_ 1 _ rfl; refine blk_put (cs := #[.slice none 0 0, .slice none 0 0]) ?_ 0 _ rfl; exact uf0_ gv⟩, ⟨ma⟩⟩
 case round =>
  clear H'
  try clear c1
  try clear p2
  try clear c6
  try clear c9
  try clear da
  try clear cu
  try clear lh
  try clear li
  try clear i8
  try clear i9
  try clear lj
  try clear lk
  try clear ja
  try clear jb
  obtain ⟨d3, a7, rfl, rfl, HA, HK1, l6, g7, e8, fu, gv, HB⟩ := hrel
  cases gk with
  | zero => exact absurd HA.out (by simp [impl_struckOut.l0])
  | succ k1 =>
   have H := HA.out
   clear HA
   simp only [impl_struckOut.l0] at H
   by_cases bq : a7 < (l1.length : Int)
   ·rw [if_pos bq] at H
    have fz := decide_eq_true bq
    clear bq
    obtain ⟨dh, H⟩ := pos_ H
    have ln := decide_eq_true dh
    clear dh
    obtain ⟨dp, H⟩ := pos_ H
    have ll := decide_eq_true dp
    clear dp
    obtain ⟨ix, H⟩ := pos_ H
    have yi := decide_eq_true ix
    clear ix
    obtain ⟨dd, H⟩ := pos_ H
    have qh := decide_eq_true dd
    clear dd
    by_cases ed : (l1.length : Int) = 0
    ·rw [if_pos ed] at H
     exact absurd H (by simp)
    ·rw [if_neg ed] at H
     have r6 : ((l1.length : Int) == 0) = false := beq_eq_false_iff_ne.mpr ed
     have bq9 : ((l1.length : Int) != 0) = true := bne_iff_ne.mpr ed
     have de4 : ¬ (l1 = []) := fun h_ => ed (by rw [h_]; rfl)
     obtain ⟨ji21, hji21⟩ : ∃ j_ : Int, (Int.tmod (wrap64 (a7 + 1)) (l1.length : Int)) = j_ := ⟨_, rfl⟩
     replace H : (if 0 ≤ (ji21) then (if (ji21) < (l1.length : Int) then (if 0 ≤ (rd l1 (ji21)) then (if (rd l1 (ji21)) < ((rd_L1 aa (rd l1 a7)).length : Int) then (impl_struckOut.l0 k1 l1 (mn d3 (rd (rd_L1 aa (rd l1 a7)) (rd l1 (ji21)))) l1 (l1.length : Int) (wrap64 (a7 + 1)) ab aa la nl) else (none)) else (none)) else (none)) else (none)) = some (r1, r2) := by first | (rw [hji21] at H; exact H) | (simp only [hji21] at H ⊢; exact H)
     obtain ⟨je, H⟩ := pos_ H
     have ak8 := decide_eq_true je
     clear je
     obtain ⟨fa, H⟩ := pos_ H
     have sy := decide_eq_true fa
     clear fa
     obtain ⟨fk, H⟩ := pos_ H
     have r7 := decide_eq_true fk
     clear fk
     obtain ⟨gp, H⟩ := pos_ H
     have uv := decide_eq_true gp
     clear gp
     obtain ⟨ji26, hji26⟩ : ∃ j_ : Int, (mn d3 (rd (rd_L1 aa (rd l1 a7)) (rd l1 (ji21)))) = j_ := ⟨_, rfl⟩
     replace H : (impl_struckOut.l0 k1 l1 ji26 l1 (l1.length : Int) (wrap64 (a7 + 1)) ab aa la nl) = some (r1, r2) := by first | (rw [hji26] at H; exact H) | (simp only [hji26] at H ⊢; exact H)
     have hji26_ : (if (rd (rd_L1 aa (rd l1 a7)) (rd l1 (ji21))) < d3 then (rd (rd_L1 aa (rd l1 a7)) (rd l1 (ji21))) else d3) = ji26 := hji26
     have H' := Aside0.mk H
     clear H
     have an6 : 0 ≤ (a7 : Int) := of_decide_eq_true (g0_)
     have an7 : a7 < (l1.length : Int) := of_decide_eq_true (g0_)
     obtain ⟨cc6, de5, bf7⟩ := Kd.at_int dc.out a7 an6 an7
     cases de5
     replace bf7 := cl_ HB bf7
     replace an6 := eq_true an6
     replace an7 := eq_true an7
     try go_wp2
     replace l6 := Aside0.mk (Kd.R_drew l6.out)
     replace g7 := Aside0.mk (Kd.S_drew g7.out)
     replace e8 := Aside0.mk (blk_drew e8.out)
     replace fu := Aside0.mk (blk_drew fu.out)
     replace gv := Aside0.mk (blk_drew gv.out)
     replace HB := Aside0.mk (below_drew1 HB.out)
     have an8 : 0 ≤ ((rd l1 a7) : Int) := of_decide_eq_true (g0_)
     have an9 : (rd l1 a7) < (aa.length : Int) := of_decide_eq_true (g0_)
     obtain ⟨cc7, ej8, de6, de7, ab5, cc8, cc9⟩ := at_L1 bb.out (rd l1 a7) an8 an9
     have de8 := ab5
     cases de7
     replace ab5 := cl_ HB ab5
     have cd0 := Aside0.mk cc9
     have ej9 := Aside0.mk cc8
     clear cc9 cc8
     replace an8 := eq_true an8
     replace an9 := eq_true an9
     have ao0 : 0 ≤ ((ji21) : Int) := of_decide_eq_true (g0_)
     have ao1 : (ji21) < (l1.length : Int) := of_decide_eq_true (g0_)
     obtain ⟨de9, df0, ab6⟩ := Kd.at_int dc.out (ji21) ao0 ao1
     have df1 := ab6
     obtain rfl : cc6 = de9 := (by injection df0)
     replace ab6 := cl_ HB ab6
     replace ao0 := eq_true ao0
     replace ao1 := eq_true ao1
     have ao2 : 0 ≤ ((rd l1 (ji21)) : Int) := of_decide_eq_true (g0_)
     have ao3 : (rd l1 (ji21)) < ((rd_L1 aa (rd l1 a7)).length : Int) := of_decide_eq_true (g0_)
     obtain ⟨cd1, df2, ab7⟩ := Kd.at_int cd0.out (rd l1 (ji21)) ao2 ao3
     have df3 := ab7
     cases df2
     replace ab7 := cl_ HB ab7
     replace ao2 := eq_true ao2
     replace ao3 := eq_true ao3
     refine start_ (n := 18) (S := fun w' => w'.cell? ⟨kf, 0, none⟩ = some (.slice ae ab.length ac) ∧ w'.cell? ⟨kf, 1, none⟩ = some (.slice (some cc7) aa.length af) ∧ w'.cell? (cc7.add ((rd l1 a7)).toNat) = some (.slice (some cd1) (rd_L1 aa (rd l1 a7)).length de6) ∧ w'.cell? (cc6.add ((ji21)).toNat) = some (.int .i64 (rd l1 (ji21))) ∧ w'.cell? (cd1.add ((rd l1 (ji21))).toNat) = some (.int .i64 (rd (rd_L1 aa (rd l1 a7)) (rd l1 (ji21))))) (ds := []) (tl_ 18 0) (g1_) rfl (g1_) ⟨(blk_cell e8.out 0).trans rfl, (blk_cell e8.out 1).trans rfl, ((cl_ HB de8).trans rfl), ((cl_ HB df1).trans rfl), ((cl_ HB df3).trans rfl)⟩ (fun hHeld => ?_); refine with_tabW impl_struckOut.tab6 impl_struckOut.bits6 (fun HT_ HW_ => ?_)
     generalize wr.drew = w27 at l6 g7 e8 fu gv HB cd0 ab5 ab6 ab7 hHeld ⊢
     refine pw_ 0 20 (tl_ 18 1) rfl rfl ?_
     refine pw_ 1 21 (tl_ 18 3) rfl rfl ?_
     refine pw_ 3 23 (tl_ 18 11) rfl rfl ?_
     refine pw_ 6 26 (tl_ 18 75) rfl rfl ?_
     refine pw_ 7 27 (tl_ 18 203) rfl rfl ?_
     refine pw_ 8 28 (tl_ 18 459) rfl rfl ?_
     refine pw_ 9 29 (tl_ 18 971) rfl rfl ?_
     refine pw_ 10 30 (tl_ 18 1995) rfl rfl ?_
     refine pw_ 11 31 (tl_ 18 4043) rfl rfl ?_
     refine pw_ 12 32 (tl_ 18 8139) rfl rfl ?_
     refine tk4_ 2 22 (tl_ 18 8143) rfl rfl hHeld ?_
     refine pw_ 4 24 (tl_ 18 8159) rfl rfl ?_
     refine tk4_ 5 25 (tl_ 18 8191) rfl rfl hHeld ?_
     refine tk4_ 13 33 (tl_ 18 16383) rfl rfl hHeld ?_
     refine pw_ 14 34 (tl_ 18 32767) rfl rfl ?_
     refine tk4_ 15 35 (tl_ 18 65535) rfl rfl hHeld ?_
     refine pw_ 16 36 (tl_ 18 131071) rfl rfl ?_
     refine pw_ 17 6 (tl_ 18 262143) rfl rfl ?_
     refine done_ (done_of HT_.out (g1_)) ?_
     try go_wp2
     go_roundg k1
     case measure => have := HK1.out; omega
     case rel => exact ⟨(ji26), (wrap64 (a7 + 1)), (by first | rfl | (simp; done) | (simp only [← hji26] <;> (first | rfl | simp)) | (simp [*]; done)), (g2_), H', ⟨g8_⟩, ⟨uf1_ l6⟩, ⟨uf3_ g7⟩, ⟨uf0_ e8⟩, ⟨uf0_ fu⟩, ⟨uf0_ gv⟩, ⟨ma⟩⟩
   ·rw [if_neg bq] at H
    have fz := decide_eq_false bq
    clear bq
    have H' := Aside0.mk H
    clear H
    go_wp2
    go_loopg [40] k1 (fun kq v40 w' => ∃ (dm : Int) (nm : List Int) (ev : List (List Int)) (wi : Value) (bf8 : Value), v40 = .int .i64 dm ∧ Aside0 (impl_struckOut.l1 kq l1 d3 l1 (l1.length : Int) dm nm ev = some (r1, r2)) ∧ Aside0 (kq ≤ k1) ∧ Aside0 (Kd.R (Kd.int .i64) 3 w' w.heap.size (fun _ => True) wi nm) ∧ Aside0 (Kd.S (Kd.slice 3 (Kd.int .i64)) 22 w' w.heap.size (fun k_ => some k_ ≠ (wi : Value).ownBlock) bf8 ev) ∧ Aside0 (w'.heap[kf]? = some (.cells #[(.slice ae ab.length ac), (.slice ag aa.length af)] 25 (0, 0))) ∧ Aside0 (w'.heap[jp]? = some (.cells #[(.slice none 0 0), (.slice none 0 0)] 25 (0, 0))) ∧ Aside0 (w'.heap[kg]? = some (.cells #[wi, bf8] 25 (0, 0))) ∧ Aside0 (Below w.heap.size w w'))
    case atStart => exact ⟨(0), (la), (nl), (.slice b4 la.length b5), (.slice bj nl.length be), (g2_), H', ⟨Nat.le_refl _⟩, ⟨uf1_ l6⟩, ⟨uf3_ g7⟩, ⟨uf0_ e8⟩, ⟨uf0_ fu⟩, ⟨uf0_ gv⟩, ⟨ma⟩⟩
    case round =>
     clear H'
     try clear c1
     try clear c2
     try clear p2
     try clear c3
     try clear p3
     try clear q3
     try clear hx3
     try clear c6
     try clear p6
     try clear c9
     try clear da
     try clear cu
     try clear bq
     try clear fz
     try clear dh
     try clear ln
     try clear dp
     try clear ll
     try clear ix
     try clear yi
     try clear dd
     try clear qh
     try clear ed
     try clear r6
     try clear bq9
     try clear de4
     try clear je
     try clear ak8
     try clear fa
     try clear sy
     try clear fk
     try clear r7
     try clear gp
     try clear uv
     try clear lh
     try clear li
     try clear i8
     try clear i9
     try clear lj
     try clear lk
     try clear ja
     try clear jb
     try clear bf7
     try clear ab5
     try clear ab6
     try clear ab7
     try clear p2
     try clear an6
     try clear an8
     try clear ao0
     try clear ao2
     try clear an7
     try clear an9
     try clear ao1
     try clear ao3
     obtain ⟨dm, nm, ev, wi, bf8, rfl, HA, HK2, l6, g7, e8, fu, gv, HB⟩ := hrel
     cases gk with
     | zero => exact absurd HA.out (by simp [impl_struckOut.l1])
     | succ k2 =>
      have H := HA.out
      clear HA
      simp only [impl_struckOut.l1] at H
      by_cases h8 : dm < (l1.length : Int)
      ·rw [if_pos h8] at H
       have ah4 := decide_eq_true h8
       clear h8
       obtain ⟨ly, H⟩ := pos_ H
       have bz3 := decide_eq_true ly
       clear ly
       obtain ⟨n9, H⟩ := pos_ H
       have al7 := decide_eq_true n9
       clear n9
       obtain ⟨j8, H⟩ := pos_ H
       have al8 := decide_eq_true j8
       clear j8
       obtain ⟨j9, H⟩ := pos_ H
       have ba7 := decide_eq_true j9
       clear j9
       by_cases lv : (l1.length : Int) = 0
       ·rw [if_pos lv] at H
        exact absurd H (by simp)
       ·rw [if_neg lv] at H
        have ba8 : ((l1.length : Int) == 0) = false := beq_eq_false_iff_ne.mpr lv
        have ek0 : ((l1.length : Int) != 0) = true := bne_iff_ne.mpr lv
        have ek1 : ¬ (l1 = []) := fun h_ => lv (by rw [h_]; rfl)
        obtain ⟨ji34, hji34⟩ : ∃ j_ : Int, (Int.tmod (wrap64 (dm + 1)) (l1.length : Int)) = j_ := ⟨_, rfl⟩
        replace H : (if 0 ≤ (ji34) then (if (ji34) < (l1.length : Int) then (if 0 ≤ (rd l1 (ji34)) then (if (rd l1 (ji34)) < ((rd_L1 ev (rd l1 dm)).length : Int) then (impl_struckOut.l1 k2 l1 d3 l1 (l1.length : Int) (wrap64 (dm + 1)) nm (ev.set ((rd l1 dm) : Int).toNat ((rd_L1 ev (rd l1 dm)).set ((rd l1 (ji34)) : Int).toNat (wrap64 ((rd (rd_L1 ev (rd l1 dm)) (rd l1 (ji34))) - d3))))) else (none)) else (none)) else (none)) else (none)) = some (r1, r2) := by first | (rw [hji34] at H; exact H) | (simp only [hji34] at H ⊢; exact H)
        obtain ⟨g2, H⟩ := pos_ H
        have yr := decide_eq_true g2
        clear g2
        obtain ⟨ic, H⟩ := pos_ H
        have al9 := decide_eq_true ic
        clear ic
        obtain ⟨wj, H⟩ := pos_ H
        have df4 := decide_eq_true wj
        clear wj
        obtain ⟨c38, H⟩ := pos_ H
        have df5 := decide_eq_true c38
        clear c38
        obtain ⟨bf9, hy363⟩ : ∃ y_ : List Int, y_ = ((rd_L1 ev (rd l1 dm)).set ((rd l1 (ji34)) : Int).toNat (wrap64 ((rd (rd_L1 ev (rd l1 dm)) (rd l1 (ji34))) - d3))) := ⟨_, rfl⟩
        replace H : (impl_struckOut.l1 k2 l1 d3 l1 (l1.length : Int) (wrap64 (dm + 1)) nm (ev.set ((rd l1 dm) : Int).toNat bf9)) = some (r1, r2) := by first | (rw [hy363]; with_reducible exact H) | (have H2_ := (Option.bind_some _ _).symm.trans H; rw [hy363]; with_reducible exact H2_) | (have H2_ := (Option.bind_some _ _).symm.trans H; with_reducible exact H2_) | with_reducible exact H | (rw [hy363]; exact H) | exact H
        have df6 := Aside0.mk hy363
        clear hy363
        obtain ⟨cd2, hy365⟩ : ∃ y_ : List (List Int), y_ = (ev.set ((rd l1 dm) : Int).toNat bf9) := ⟨_, rfl⟩
        replace H : (impl_struckOut.l1 k2 l1 d3 l1 (l1.length : Int) (wrap64 (dm + 1)) nm cd2) = some (r1, r2) := by first | (rw [hy365]; with_reducible exact H) | (have H2_ := (Option.bind_some _ _).symm.trans H; rw [hy365]; with_reducible exact H2_) | (have H2_ := (Option.bind_some _ _).symm.trans H; with_reducible exact H2_) | with_reducible exact H | (rw [hy365]; exact H) | exact H
        have df7 := Aside0.mk hy365
        clear hy365
        have H' := Aside0.mk H
        clear H
        have bg0 : 0 ≤ (dm : Int) := of_decide_eq_true (g0_)
        have bg1 : dm < (l1.length : Int) := of_decide_eq_true (g0_)
        obtain ⟨cd3, df8, cd4⟩ := Kd.at_int dc.out dm bg0 bg1
        cases df8
        replace cd4 := cl_ HB cd4
        replace bg0 := eq_true bg0
        replace bg1 := eq_true bg1
        try go_wp2
        replace l6 := Aside0.mk (Kd.R_drew l6.out)
        replace g7 := Aside0.mk (Kd.S_drew g7.out)
        replace e8 := Aside0.mk (blk_drew e8.out)
        replace fu := Aside0.mk (blk_drew fu.out)
        replace gv := Aside0.mk (blk_drew gv.out)
        replace HB := Aside0.mk (below_drew1 HB.out)
        obtain ⟨df9, ab8, ab9⟩ := Kd.S_slice g7.out
        (first | subst ab9 | (injection ab9 with f1_ f2_ f3_; have f4_ := f1_.symm; have f5_ := f3_.symm; clear f1_ f2_ f3_; subst f4_; subst f5_))
        have ao4 : 0 ≤ ((rd l1 dm) : Int) := of_decide_eq_true (g0_)
        have ao5 : (rd l1 dm) < (ev.length : Int) := of_decide_eq_true (g0_)
        obtain ⟨bg2, ek2, dg0, dg1, ao6, cd5, cd6⟩ := at_L1 (Kd.S_reads' g7.out).2.2 (rd l1 dm) ao4 ao5
        cases dg1
        obtain ⟨ce360, hce360, hMe360, hcc360⟩ := Kd.S_get g7.out [] (rd l1 dm) ao4 (by first | exact ao5 | exact of_decide_eq_true (g0_) | (have e_ := (Kd.S_reads' g7.out).1; omega))
        obtain ⟨ve360_0, rfl, ge360_0⟩ := hMe360
        have hv360_0 := hcc360 0 _ rfl
        rw [Nat.add_zero, show ((Kd.slice 3 (Kd.int .i64))).sz = 1 from rfl, Nat.mul_one] at hv360_0
        replace hv360_0 := Option.some.inj (hv360_0.symm.trans ao6)
        rw [hv360_0] at ge360_0
        have t8 := Aside0.mk (show Kd.R (Kd.int .i64) 3 _ _ _ _ (rd_L1 ev (rd l1 dm)) from ge360_0)
        clear hv360_0 ge360_0
        have HX360_0 := Aside0.mk ao6
        clear hcc360 hce360
        have bg3 := Aside0.mk cd6
        have ek3 := Aside0.mk cd5
        clear cd6 cd5
        replace ao4 := eq_true ao4
        replace ao5 := eq_true ao5
        have bg4 : 0 ≤ ((ji34) : Int) := of_decide_eq_true (g0_)
        have bg5 : (ji34) < (l1.length : Int) := of_decide_eq_true (g0_)
        obtain ⟨dg2, dg3, ao7⟩ := Kd.at_int dc.out (ji34) bg4 bg5
        have dg4 := ao7
        obtain rfl : cd3 = dg2 := (by injection dg3)
        replace ao7 := cl_ HB ao7
        replace bg4 := eq_true bg4
        replace bg5 := eq_true bg5
        have bg6 : 0 ≤ ((rd l1 (ji34)) : Int) := of_decide_eq_true (g0_)
        have bg7 : (rd l1 (ji34)) < ((rd_L1 ev (rd l1 dm)).length : Int) := of_decide_eq_true (g0_)
        obtain ⟨ek4, dg5, bg8⟩ := Kd.at_int (by repeat (first | (with_reducible exact bg3.out) | (with_reducible refine Kd.C_alloc ?_ _) | (with_reducible refine Kd.C_drewN ?_ _) | (with_reducible refine Kd.C_drew ?_) | exact bg3.out)) (rd l1 (ji34)) bg6 bg7
        cases dg5
        replace bg6 := eq_true bg6
        replace bg7 := eq_true bg7
        have t9 : 0 ≤ ((rd l1 (ji34)) : Int) := of_decide_eq_true (g0_)
        have ua : ((rd l1 (ji34)) : Int) < (((rd_L1 ev (rd l1 dm)).length : Int) : Int) := of_decide_eq_true (g0_)
        obtain ⟨wk, ca3, t1, ac0, gl39, cl39, HG39⟩ := Kd.R_form t8.out (by omega)
        (first | cases t1 | (injection t1 with ea_ en_ ec_; (first | subst ea_ | (injection ea_ with ea_; subst ea_)); subst ec_; clear en_))
        have GB39 := Aside0.mk ac0
        have GG39 := Aside0.mk HG39
        clear ac0 gl39 HG39
        (first | simp only [add_plain] at bg8 | skip)
        obtain ⟨bg9, hf39_0⟩ := Kd.R_celln 0 t8.out ((rd l1 (ji34)) : Int) t9 ua
        replace t9 := eq_true t9
        replace ua := eq_true ua
        have hq42 : ((rd l1 dm) : Int) < (ev.length : Int) := (by have h_ : ((rd l1 dm) : Int) < ((ev.length : Int) : Int) := of_decide_eq_true (g0_); first | exact h_ | (have e_ := (Kd.S_reads' g7.out).1; omega) | simpa only [List.length_set, List.length_set] using h_)
        obtain ⟨oki42, ce42, hcl42, hM42, hcc42, hok42, hbk42⟩ := Kd.S_borrow g7.out [] ((rd l1 dm) : Int) (of_decide_eq_true (g0_)) (by first | exact hq42 | exact of_decide_eq_true (g0_) | (have e_ := (Kd.S_reads' g7.out).1; omega))
        obtain ⟨ve42_0, rfl, ge42_0⟩ := hM42
        have hv42 := hcc42 0 _ rfl
        rw [Nat.add_zero, show ((Kd.slice 3 (Kd.int .i64))).sz = 1 from rfl, Nat.mul_one] at hv42
        replace hv42 := Option.some.inj (hv42.symm.trans HX360_0.out)
        subst hv42
        clear hcc42 hcl42
        replace ge42_0 := (show Kd.R (Kd.int .i64) 3 _ _ _ _ (rd_L1 ev (rd l1 dm)) from ge42_0)
        have HP42 := Kd.R_putg ge42_0 ((rd l1 (ji34)) : Int) (wrap64 ((rd (rd_L1 ev (rd l1 dm)) (rd l1 (ji34))) - d3))
        rw [← df6.out] at HP42
        have HS42 := hbk42 HP42.2 (fun k_ e_ => by injection e_ with e_; subst e_; exact ge42_0.1 _ rfl) (x' := bf9) (Kd.M_row HP42.1)
        rw [← df7.out] at HS42
        have HQ42 := Aside0.mk HS42
        clear HP42 HS42 hbk42 hok42
        refine start_ (n := 19) (S := fun w' => w'.cell? ⟨kg, 0, none⟩ = some (wi) ∧ w'.cell? ⟨kg, 1, none⟩ = some (.slice (some bg2) ev.length ab8) ∧ w'.cell? (bg2.add ((rd l1 dm)).toNat) = some (.slice (some ⟨wk, 0, none⟩) (rd_L1 ev (rd l1 dm)).length dg0) ∧ w'.cell? (cd3.add ((ji34)).toNat) = some (.int .i64 (rd l1 (ji34))) ∧ w'.cell? ⟨wk, ((rd l1 (ji34))).toNat, none⟩ = some (.int .i64 (rd (rd_L1 ev (rd l1 dm)) (rd l1 (ji34))))) (ds := [18]) (tl_ 19 0) (g1_) rfl (g1_) ⟨(blk_cell gv.out 0).trans rfl, (blk_cell gv.out 1).trans rfl, ao6, ((cl_ HB dg4).trans rfl), bg8⟩ (fun hHeld => ?_); refine with_tabW impl_struckOut.tab11 impl_struckOut.bits11 (fun HT_ HW_ => ?_)
        generalize wr.drew = w40 at l6 g7 e8 fu gv HB GG39 t8 HQ42 bg3 HX360_0 hf39_0 ao6 ao7 bg8 bg9 hHeld ⊢
        refine pw_ 0 45 (tl_ 19 1) rfl rfl ?_
        refine pw_ 2 47 (tl_ 19 5) rfl rfl ?_
        refine pw_ 5 50 (tl_ 19 37) rfl rfl ?_
        refine pw_ 6 51 (tl_ 19 101) rfl rfl ?_
        refine pw_ 7 52 (tl_ 19 229) rfl rfl ?_
        refine pw_ 8 53 (tl_ 19 485) rfl rfl ?_
        refine pw_ 9 54 (tl_ 19 997) rfl rfl ?_
        refine pw_ 10 55 (tl_ 19 2021) rfl rfl ?_
        refine pw_ 11 56 (tl_ 19 4069) rfl rfl ?_
        refine pw_ 15 60 (tl_ 19 36837) rfl rfl ?_
        refine tk4_ 1 46 (tl_ 19 36839) rfl rfl hHeld ?_
        refine pw_ 3 48 (tl_ 19 36847) rfl rfl ?_
        refine tk4_ 4 49 (tl_ 19 36863) rfl rfl hHeld ?_
        refine tk4_ 12 57 (tl_ 19 40959) rfl rfl hHeld ?_
        refine pw_ 13 58 (tl_ 19 49151) rfl rfl ?_
        refine tk4_ 14 59 (tl_ 19 65535) rfl rfl hHeld ?_
        refine pw_ 16 61 (tl_ 19 131071) rfl rfl ?_
        refine pw_ 17 62 (tl_ 19 262143) rfl rfl ?_
        refine last_ (i := 18) (N := none) (tl_ 19 524287) rfl rfl (one_of HT_.out (g1_)) (by decide) (fun K hK => ?_)
        refine skip_ (w1 := ?_) (by rfl) rfl ?_ ?_
        rotate_left
        ·go_simp
         rfl
        refine hK.out _ _ ?_
        clear hK K
        refine done_ (done_of HT_.out (g1_)) ?_
        try go_wp2
        go_roundg k2
        case measure => have := HK1.out; have := HK2.out; omega
        case rel => exact ⟨(wrap64 (dm + 1)), (nm), (cd2), (wi), (.slice (some bg2) ev.length ab8), (g2_), H', ⟨g10_⟩, ⟨by (with_reducible repeat (first | apply Kd.R_alloc | apply Kd.R_drewN | apply Kd.R_drew)); exact Kd.R_mono (Kd.R_far (p := ⟨wk, ((rd l1 (ji34)) : Int).toNat, none⟩) (Kd.R_far1 l6.out rfl ((t8.out.1 _ rfl).1)) (fun _ hk => hk.2) (.int .i64 (wrap64 ((rd (rd_L1 ev (rd l1 dm)) (rd l1 (ji34))) - d3)))) (fun _ hk => trivial)⟩, ⟨uf3_ HQ42⟩, ⟨by (with_reducible repeat (first | refine blk_drewN ?_ _ | refine blk_drew ?_ | refine blk_alloc ?_ _)); refine blk_far ?_ (by have h_ := Kd.R_ne t8.out e8.out (by decide); intro e_; exact h_ (g6_)) _; exact uf0_ e8⟩, ⟨by (with_reducible repeat (first | refine blk_drewN ?_ _ | refine blk_drew ?_ | refine blk_alloc ?_ _)); refine blk_far ?_ (by have h_ := Kd.R_ne t8.out fu.out (by decide); intro e_; exact h_ (g6_)) _; exact uf0_ fu⟩, ⟨by (with_reducible repeat (first | refine blk_drewN ?_ _ | refine blk_drew ?_ | refine blk_alloc ?_ _)); refine blk_far ?_ (by have h_ := Kd.R_ne t8.out gv.out (by decide); intro e_; exact h_ (g6_)) _; exact uf0_ gv⟩, ⟨ma⟩⟩
      ·rw [if_neg h8] at H
       have ah4 := decide_eq_false h8
       clear h8
       simp only [Option.some.injEq, Prod.mk.injEq] at H
       obtain ⟨rfl, rfl⟩ := H
       have cd7 := cc2.out
       have cd8 := an4.out
       have dg6 := cc3.out
       have dg7 := an5.out
       obtain ⟨dg8, dg9, dh0, dh1⟩ := blk2_ gv
       obtain ⟨p8, p9, bh0⟩ := Kd.R_slice l6.out
       subst bh0
       have dh2 := cc1.out
       have dh3 := cc0.out
       obtain ⟨dh4, dh5, dh6, dh7⟩ := blk2_ fu
       obtain ⟨ub, uc, bh1⟩ := Kd.S_slice g7.out
       subst bh1
       go_wp2
       refine bodyPost_ret (results_cell_row rfl _ _ jp 25 #[.slice p8 nm.length p9, .slice ub ev.length uc] (0, 0) _ rfl (by (with_reducible repeat (first | refine blk_drewN ?_ _ | refine blk_drew ?_ | refine blk_alloc ?_ _)); refine blk_put (cs := #[.slice p8 nm.length p9, .slice none 0 0]) ?_ 1 _ rfl; refine blk_put (cs := #[.slice none 0 0, .slice none 0 0]) ?_ 0 _ rfl; exact uf0_ fu) Try.underlying25 rfl (g1_)) rfl ?_
       exact ⟨_, _, g4_, by (with_reducible repeat (first | apply Kd.R_alloc | apply Kd.R_drewN | apply Kd.R_drew)); exact Kd.R_mono (Kd.R_far (p := ⟨jp, 1, none⟩) (Kd.R_far (p := ⟨jp, 0, none⟩) (Kd.R_types l6.out fu.out (by decide)) (fun _ hk => hk.2) (.slice p8 nm.length p9)) (fun _ hk => hk.2) (.slice ub ev.length uc)) (fun _ hk => trivial), by (with_reducible repeat (first | apply Kd.S_alloc | apply Kd.S_drewN | apply Kd.S_drew)); exact Kd.S_mono (Kd.S_far (p := ⟨jp, 1, none⟩) (Kd.S_far (p := ⟨jp, 0, none⟩) (Kd.S_types g7.out fu.out (by decide)) (fun _ hk => hk.2) (.slice p8 nm.length p9)) (fun _ hk => hk.2) (.slice ub ev.length uc)) (fun _ hk => hk.1), ma⟩
def impl_StruckOut.f (k : Nat) (ab : List Int) (aa : List (List Int)) (a1 : Int) : Option (List Int × (List (List Int)) × Bool) := (impl_isBook.f k ab aa).bind fun ac1 => (if ac1 = true then ((impl_circles.f k ab aa).bind fun g8 => (if a1 < 0 then (some (([] : List Int), ([] : List (List Int)), false)) else (if a1 ≥ (g8.length : Int) then (some (([] : List Int), ([] : List (List Int)), false)) else (if 0 ≤ a1 then (if a1 < (g8.length : Int) then ((impl_struckOut.f k ab aa (rd_L1 g8 a1)).bind fun bt373 => (some (bt373.1, bt373.2, true))) else (none)) else (none))))) else (some (([] : List Int), ([] : List (List Int)), false)))
theorem impl_StruckOut.mq {p : Prop} (h : p := by
 repeat' first
 | (with_reducible exact impl_circles.mono _ _ _)
 | (with_reducible exact impl_isBook.mono _ _ _)
 | (with_reducible exact impl_struckOut.mono _ _ _ _)
 | (with_reducible exact LeO.refl _)
 | (with_reducible exact LeO.none _)
 | (with_reducible refine LeO.ite ?_ ?_)
 | (with_reducible refine LeO.bind ?_ (fun _ => ?_))
 | exact impl_circles.mono _ _ _
 | exact impl_isBook.mono _ _ _
 | exact impl_struckOut.mono _ _ _ _
 | exact LeO.none _
 | refine LeO.ite ?_ ?_
 | refine LeO.bind ?_ (fun _ => ?_)) : p := h
theorem impl_StruckOut.mono : ∀ a0 a1 a2 k, LeO (impl_StruckOut.f k a0 a1 a2) (impl_StruckOut.f (k + 1) a0 a1 a2) := by
 intro a0 a1 a2 k
 unfold impl_StruckOut.f
 exact impl_StruckOut.mq
def impl_StruckOut.T6 : Bool × List (List Nat × List Nat) := (true, [([], []), ([], []), ([], []), ([1, 2], [1, 2]), ([3], [3]), ([0, 4], [0, 4]), ([5, 5, 0, 1, 2, 3, 4, 5], [5]), ([6, 0, 1, 2, 3, 4, 5, 6], [])])
def impl_StruckOut.B6 : List Nat := [0, 0, 0, 6, 14, 31, 63, 127]
theorem impl_StruckOut.tab6 : rtab .any (opsOf Try.f48 6) = impl_StruckOut.T6 := by kernel_rfl
theorem impl_StruckOut.bits6 : waitsOk impl_StruckOut.T6.2 impl_StruckOut.B6 = true := by kernel_rfl
theorem d7 {p : Prop} (h : p := by repeat (first | (with_reducible first | exact HB.out | apply below_alloc | apply pw_below_drewN | apply below_drew1 | refine below_set ?_ ao8.out | refine below_set ?_ ao9.out) | exact HB.out)) : p := h
set_option maxHeartbeats 8000000 in
set_option maxRecDepth 100000 in
theorem impl_StruckOut.calls (k : Nat) (ae : Option Addr) (ac : Nat) (ab : List Int) (ag : Option Addr) (af : Nat) (aa : List (List Int)) (a1 : Int) (r1 : List Int) (r2 : List (List Int)) (r3 : Bool) (w : World) (bo : Kd.C (Kd.int .i64) w ae ab.length ab) (bs : ab.length ≤ ac) (bp : Kd.C (Kd.slice 3 (Kd.int .i64)) w ag aa.length aa) (bt : aa.length ≤ af) (h : impl_StruckOut.f k ab aa a1 = some (r1, r2, r3)) :
  Calls Try.prog 48 #[.agg #[.slice ae ab.length ac, .slice ag aa.length af], .int .i64 a1] w fun e w' => ∃ v0_ v1_ : Value, e = .returned (.tuple #[.agg #[v0_, v1_], .bool r3]) ∧ Kd.R (Kd.int .i64) 3 w' w.heap.size (fun k_ => (w.heap.size ≤ k_)) v0_ r1 ∧ Kd.N (Kd.slice 3 (Kd.int .i64)) 22 w' w.heap.size (fun k_ => (w.heap.size ≤ k_) ∧ some k_ ≠ (v0_ : Value).ownBlock) v1_ r2 ∧ Below w.heap.size w w' := by
 have hu25 := Try.underlying25
 have bg := Aside0.mk bo
 have bx := Aside0.mk bs
 clear bo bs
 have bb := Aside0.mk bp
 have b2 := Aside0.mk bt
 clear bp bt
 have HB := Aside0.mk (Below.refl w.heap.size w)
 have H : ((impl_isBook.f k ab aa).bind fun ac1 => (if ac1 = true then ((impl_circles.f k ab aa).bind fun g8 => (if a1 < 0 then (some (([] : List Int), ([] : List (List Int)), false)) else (if a1 ≥ (g8.length : Int) then (some (([] : List Int), ([] : List (List Int)), false)) else (if 0 ≤ a1 then (if a1 < (g8.length : Int) then ((impl_struckOut.f k ab aa (rd_L1 g8 a1)).bind fun bt373 => (some (bt373.1, bt373.2, true))) else (none)) else (none))))) else (some (([] : List Int), ([] : List (List Int)), false)))) = some (r1, r2, r3) := h
 clear h
 obtain ⟨ac1, A3, H⟩ := bind_ H
 by_cases c4 : ac1 = true
 ·subst c4
  replace H := ifp_ H
  obtain ⟨g8, A5, H⟩ := bind_ H
  by_cases c6 : a1 < 0
  ·rw [if_pos c6] at H
   have fj := decide_eq_true c6
   clear c6
   simp only [Option.some.injEq, Prod.mk.injEq] at H
   obtain ⟨rfl, rfl, rfl⟩ := H
   go_enter Try.func48, Try.ntmps48
   go_wp2_with (first | ((with_reducible refine gate_dst (N := 2) rfl ?_); (try (refine gate_guard (by rfl) ?_; dsimp only)); refine bx_ (N := 2) #[.slice ae ab.length ac, .slice ag aa.length af] 25 ?_; intro d4 hg w7 hbox hb; have ck := Aside0.mk (hbox); have bh2 := Aside0.mk ((g7_ : w.heap.size ≤ d4)); have ao8 := Aside0.mk ((g7_ : w.heap.size ≤ d4)); replace HB := Aside0.mk (below_step (d7) hb); clear hb hbox hg) | ((with_reducible refine gate_dst (N := 4) rfl ?_); (try (refine gate_guard (by rfl) ?_; dsimp only)); refine bx_ (N := 4) #[.slice none 0 0, .slice none 0 0] 25 ?_; intro cy hg w8 hbox hb; have dn := Aside0.mk (hbox); have bh3 := Aside0.mk ((g7_ : w.heap.size ≤ cy)); have ao9 := Aside0.mk ((g7_ : w.heap.size ≤ cy)); replace HB := Aside0.mk (below_step (d7) hb); have lb := Aside0.mk ((g39_ : d4 ≠ cy)); have qa := Aside0.mk ((g40_ : cy ≠ d4)); replace ck := bb_ ck hb; clear hb hbox hg; have ek5 := lb.out; have ek6 := qa.out; obtain ⟨av0, av1, av2, av3⟩ := blk2_ ck) | ((with_reducible refine gate_callee (f := 73) rfl ?_); refine goesL_ (some 8) rfl rfl Try.func73 k_ rfl #[.agg #[.slice ae ab.length ac, .slice ag aa.length af]] rfl (g3_) ?_; (with_reducible refine (impl_isBook.calls k _ _ ab _ _ aa true _ ?side1 ?side2 ?side3 ?side4 A3.out).mono ?_); (case side1 => exact uf2_ bg); (case side2 => exact bx.out); (case side3 => exact uf2_ bb); (case side4 => exact b2.out); rintro e w11 ⟨rfl, hb⟩; refine ⟨_, rfl, ?_⟩; replace ck := bb_ ck hb; replace dn := bb_ dn hb; replace HB := Aside0.mk (below_step (d7) hb); (try clear hb); (try clear hk hi); obtain ⟨bq5, bq6, dh8, bq7⟩ := blk2_ ck) | ((with_reducible refine gate_callee (f := 96) rfl ?_); refine goesL_ (some 12) rfl rfl Try.func96 k_ rfl #[.agg #[.slice ae ab.length ac, .slice ag aa.length af]] rfl (g3_) ?_; (with_reducible refine (impl_circles.calls k _ _ ab _ _ aa g8 _ ?side1 ?side2 ?side3 ?side4 A5.out).mono ?_); (case side1 => exact uf2_ bg); (case side2 => exact bx.out); (case side3 => exact uf2_ bb); (case side4 => exact b2.out); rintro e kh ⟨cd9, rfl, aj, hb⟩; refine ⟨_, rfl, ?_⟩; have gf := Aside0.mk (Kd.N_lower (Kd.N_mono (ok' := fun k_ => (w.heap.size ≤ k_) ∧ k_ ≠ d4 ∧ k_ ≠ cy) aj (fun k_ hk_ => ⟨(Nat.le_trans (below_size (d7)) hk_), (Kd.freshB (g := d4) (o := .cells #[.slice ae ab.length ac, .slice ag aa.length af] 25 (0, 0)) (uf0_ ck) k_ hk_), (Kd.freshB (g := cy) (o := .cells #[.slice none 0 0, .slice none 0 0] 25 (0, 0)) (uf0_ dn) k_ hk_)⟩)) (below_size (d7))); replace ck := bb_ ck hb; replace dn := bb_ dn hb; replace HB := Aside0.mk (below_step (d7) hb); (try clear hb); (try clear hk hi); (try clear aj); obtain ⟨u2, u4, u6, u7⟩ := blk2_ dn))
   refine bodyPost_ret (results_ct rfl _ _ cy 25 #[.slice none 0 0, .slice none 0 0] (0, 0) _ rfl (g62_) Try.underlying25 rfl (g1_)) rfl ?_
   exact ⟨_, _, g4_, g17_, g13_, d7⟩
  ·rw [if_neg c6] at H
   have fj := decide_eq_false c6
   clear c6
   by_cases bq : a1 ≥ (g8.length : Int)
   ·rw [if_pos bq] at H
    have fz := decide_eq_true bq
    clear bq
    simp only [Option.some.injEq, Prod.mk.injEq] at H
    obtain ⟨rfl, rfl, rfl⟩ := H
    go_enter Try.func48, Try.ntmps48
    go_wp2_with (first | ((with_reducible refine gate_dst (N := 2) rfl ?_); (try (refine gate_guard (by rfl) ?_; dsimp only)); refine bx_ (N := 2) #[.slice ae ab.length ac, .slice ag aa.length af] 25 ?_; intro d4 hg qm hbox hb; have ck := Aside0.mk (hbox); have bh2 := Aside0.mk ((g7_ : w.heap.size ≤ d4)); have ao8 := Aside0.mk ((g7_ : w.heap.size ≤ d4)); replace HB := Aside0.mk (below_step (d7) hb); clear hb hbox hg) | ((with_reducible refine gate_dst (N := 4) rfl ?_); (try (refine gate_guard (by rfl) ?_; dsimp only)); refine bx_ (N := 4) #[.slice none 0 0, .slice none 0 0] 25 ?_; intro cy hg pa hbox hb; have dn := Aside0.mk (hbox); have bh3 := Aside0.mk ((g7_ : w.heap.size ≤ cy)); have ao9 := Aside0.mk ((g7_ : w.heap.size ≤ cy)); replace HB := Aside0.mk (below_step (d7) hb); have lb := Aside0.mk ((g39_ : d4 ≠ cy)); have qa := Aside0.mk ((g40_ : cy ≠ d4)); replace ck := bb_ ck hb; clear hb hbox hg; have ek7 := lb.out; have ek8 := qa.out; obtain ⟨ek9, el0, el1, el2⟩ := blk2_ ck) | ((with_reducible refine gate_callee (f := 73) rfl ?_); refine goesL_ (some 8) rfl rfl Try.func73 k_ rfl #[.agg #[.slice ae ab.length ac, .slice ag aa.length af]] rfl (g3_) ?_; (with_reducible refine (impl_isBook.calls k _ _ ab _ _ aa true _ ?side1 ?side2 ?side3 ?side4 A3.out).mono ?_); (case side1 => exact uf2_ bg); (case side2 => exact bx.out); (case side3 => exact uf2_ bb); (case side4 => exact b2.out); rintro e sc ⟨rfl, hb⟩; refine ⟨_, rfl, ?_⟩; replace ck := bb_ ck hb; replace dn := bb_ dn hb; replace HB := Aside0.mk (below_step (d7) hb); (try clear hb); (try clear hk hi); obtain ⟨xg, xh, ah1, xi⟩ := blk2_ ck) | ((with_reducible refine gate_callee (f := 96) rfl ?_); refine goesL_ (some 12) rfl rfl Try.func96 k_ rfl #[.agg #[.slice ae ab.length ac, .slice ag aa.length af]] rfl (g3_) ?_; (with_reducible refine (impl_circles.calls k _ _ ab _ _ aa g8 _ ?side1 ?side2 ?side3 ?side4 A5.out).mono ?_); (case side1 => exact uf2_ bg); (case side2 => exact bx.out); (case side3 => exact uf2_ bb); (case side4 => exact b2.out); rintro e zo ⟨cd9, rfl, aj, hb⟩; refine ⟨_, rfl, ?_⟩; have gf := Aside0.mk (Kd.N_lower (Kd.N_mono (ok' := fun k_ => (w.heap.size ≤ k_) ∧ k_ ≠ d4 ∧ k_ ≠ cy) aj (fun k_ hk_ => ⟨(Nat.le_trans (below_size (d7)) hk_), (Kd.freshB (g := d4) (o := .cells #[.slice ae ab.length ac, .slice ag aa.length af] 25 (0, 0)) (uf0_ ck) k_ hk_), (Kd.freshB (g := cy) (o := .cells #[.slice none 0 0, .slice none 0 0] 25 (0, 0)) (uf0_ dn) k_ hk_)⟩)) (below_size (d7))); replace ck := bb_ ck hb; replace dn := bb_ dn hb; replace HB := Aside0.mk (below_step (d7) hb); (try clear hb); (try clear hk hi); (try clear aj); obtain ⟨el3, el4, dh9⟩ := Kd.N_slice gf.out; subst dh9; obtain ⟨bh4, bh5, bh6, bh7⟩ := blk2_ dn))
    refine bodyPost_ret (results_ct rfl _ _ cy 25 #[.slice none 0 0, .slice none 0 0] (0, 0) _ rfl (g62_) Try.underlying25 rfl (g1_)) rfl ?_
    exact ⟨_, _, g4_, g17_, g13_, d7⟩
   ·rw [if_neg bq] at H
    have fz := decide_eq_false bq
    clear bq
    obtain ⟨gp, H⟩ := pos_ H
    have uv := decide_eq_true gp
    clear gp
    obtain ⟨o4, H⟩ := pos_ H
    have bm7 := decide_eq_true o4
    clear o4
    replace H := Option.bind_eq_some_iff.mp H
    obtain ⟨⟨ac2, ap0⟩, ce0, H⟩ := H
    try dsimp only at H
    have A27 := Aside0.mk ce0
    clear ce0
    simp only [Option.some.injEq, Prod.mk.injEq] at H
    obtain ⟨rfl, rfl, rfl⟩ := H
    go_enter Try.func48, Try.ntmps48
    try go_wp2_with (first | ((with_reducible refine gate_dst (N := 2) rfl ?_); (try (refine gate_guard (by rfl) ?_; dsimp only)); refine bx_ (N := 2) #[.slice ae ab.length ac, .slice ag aa.length af] 25 ?_; intro d4 hg w28 hbox hb; have ck := Aside0.mk (hbox); have bh2 := Aside0.mk ((g7_ : w.heap.size ≤ d4)); have ao8 := Aside0.mk ((g7_ : w.heap.size ≤ d4)); replace HB := Aside0.mk (below_step (d7) hb); clear hb hbox hg) | ((with_reducible refine gate_dst (N := 4) rfl ?_); (try (refine gate_guard (by rfl) ?_; dsimp only)); refine bx_ (N := 4) #[.slice none 0 0, .slice none 0 0] 25 ?_; intro cy hg w29 hbox hb; have dn := Aside0.mk (hbox); have bh3 := Aside0.mk ((g7_ : w.heap.size ≤ cy)); have ao9 := Aside0.mk ((g7_ : w.heap.size ≤ cy)); replace HB := Aside0.mk (below_step (d7) hb); have lb := Aside0.mk ((g39_ : d4 ≠ cy)); have qa := Aside0.mk ((g40_ : cy ≠ d4)); replace ck := bb_ ck hb; clear hb hbox hg; have cb8 := lb.out; have cb9 := qa.out; obtain ⟨bw2, bw3, bw4, bw5⟩ := blk2_ ck) | ((with_reducible refine gate_callee (f := 73) rfl ?_); refine goesL_ (some 8) rfl rfl Try.func73 k_ rfl #[.agg #[.slice ae ab.length ac, .slice ag aa.length af]] rfl (g3_) ?_; (with_reducible refine (impl_isBook.calls k _ _ ab _ _ aa true _ ?side1 ?side2 ?side3 ?side4 A3.out).mono ?_); (case side1 => exact uf2_ bg); (case side2 => exact bx.out); (case side3 => exact uf2_ bb); (case side4 => exact b2.out); rintro e w32 ⟨rfl, hb⟩; refine ⟨_, rfl, ?_⟩; replace ck := bb_ ck hb; replace dn := bb_ dn hb; replace HB := Aside0.mk (below_step (d7) hb); (try clear hb); (try clear hk hi); obtain ⟨dd3, dd4, dd5, dd6⟩ := blk2_ ck) | ((with_reducible refine gate_callee (f := 96) rfl ?_); refine goesL_ (some 12) rfl rfl Try.func96 k_ rfl #[.agg #[.slice ae ab.length ac, .slice ag aa.length af]] rfl (g3_) ?_; (with_reducible refine (impl_circles.calls k _ _ ab _ _ aa g8 _ ?side1 ?side2 ?side3 ?side4 A5.out).mono ?_); (case side1 => exact uf2_ bg); (case side2 => exact bx.out); (case side3 => exact uf2_ bb); (case side4 => exact b2.out); rintro e w34 ⟨cd9, rfl, aj, hb⟩; refine ⟨_, rfl, ?_⟩; have gf := Aside0.mk (Kd.N_lower (Kd.N_mono (ok' := fun k_ => (w.heap.size ≤ k_) ∧ k_ ≠ d4 ∧ k_ ≠ cy) aj (fun k_ hk_ => ⟨(Nat.le_trans (below_size (d7)) hk_), (Kd.freshB (g := d4) (o := .cells #[.slice ae ab.length ac, .slice ag aa.length af] 25 (0, 0)) (uf0_ ck) k_ hk_), (Kd.freshB (g := cy) (o := .cells #[.slice none 0 0, .slice none 0 0] 25 (0, 0)) (uf0_ dn) k_ hk_)⟩)) (below_size (d7))); replace ck := bb_ ck hb; replace dn := bb_ dn hb; replace HB := Aside0.mk (below_step (d7) hb); (try clear hb); (try clear hk hi); (try clear aj); obtain ⟨el5, di0, di1⟩ := Kd.N_slice gf.out; subst di1))
    replace gf := Aside0.mk (Kd.N_drew gf.out)
    replace ck := Aside0.mk (blk_drew ck.out)
    replace dn := Aside0.mk (blk_drew dn.out)
    replace HB := Aside0.mk (below_drew1 HB.out)
    have ap1 : 0 ≤ (a1 : Int) := of_decide_eq_true (g0_)
    have ap2 : a1 < (g8.length : Int) := of_decide_eq_true (g0_)
    obtain ⟨ce1, ce2, ce3, di2, bh8, ce4, ce5⟩ := at_L1 (Kd.N_reads' gf.out).2.2 a1 ap1 ap2
    cases di2
    obtain ⟨ce372, hce372, hMe372, hcc372⟩ := Kd.N_get gf.out [] a1 ap1 (by first | exact ap2 | exact of_decide_eq_true (g0_) | (have e_ := (Kd.N_reads' gf.out).1; omega))
    obtain ⟨ua372_0, uc372_0, rfl, ul372_0, ge372_0⟩ := Kd.FK_slice_open hMe372
    have hv372_0 := hcc372 0 _ rfl
    rw [Nat.add_zero, show ((Kd.slice 3 (Kd.int .i64))).sz = 1 from rfl, Nat.mul_one] at hv372_0
    replace hv372_0 := Option.some.inj (hv372_0.symm.trans bh8)
    injection hv372_0 with hva_ hvn_ hvc_
    rw [hva_] at ge372_0
    rw [hvc_] at ul372_0
    have bh9 := Aside0.mk (show Kd.V (Kd.int .i64) 3 _ w.heap.size _ _ (rd_L1 g8 a1) from Kd.V_mk ul372_0 ge372_0)
    clear hva_ hvn_ hvc_ ge372_0 ul372_0
    clear hcc372 hce372
    have wl := Aside0.mk ce5
    have di3 := Aside0.mk ce4
    clear ce5 ce4
    replace ap1 := eq_true ap1
    replace ap2 := eq_true ap2
    refine start_ (n := 8) (S := fun w' => w'.cell? ⟨d4, 0, none⟩ = some (.slice ae ab.length ac) ∧ w'.cell? ⟨d4, 1, none⟩ = some (.slice ag aa.length af) ∧ w'.cell? (ce1.add (a1).toNat) = some (.slice ce2 (rd_L1 g8 a1).length ce3)) (ds := []) (tl_ 8 0) (g1_) rfl (g1_) ⟨(blk_cell ck.out 0).trans rfl, (blk_cell ck.out 1).trans rfl, bh8⟩ (fun hHeld => ?_); refine with_tabW impl_StruckOut.tab6 impl_StruckOut.bits6 (fun HT_ HW_ => ?_)
    generalize w34.drew = dx at gf ck dn HB bh9 wl bh8 hHeld ⊢
    refine pw_ 1 23 (tl_ 8 2) rfl rfl ?_
    refine pw_ 2 24 (tl_ 8 6) rfl rfl ?_
    refine pw_ 3 25 (tl_ 8 14) rfl rfl ?_
    refine tk1_ 0 22 (tl_ 8 15) rfl rfl hHeld ?_
    refine tk1_ 4 26 (tl_ 8 31) rfl rfl hHeld ?_
    refine one_ (i := 5) (N := some 27) (tl_ 8 63) rfl rfl (one_of HT_.out (g1_)) (by decide) (fun K hK => ?_)
    refine goes_ Try.func97 (g1_) rfl #[.agg #[.slice ae ab.length ac, .slice ag aa.length af], .slice ce2 (rd_L1 g8 a1).length ce3] (by rfl) rfl rfl (g3_) ?_
    with_reducible refine (impl_struckOut.calls k _ _ ab _ _ aa _ _ (rd_L1 g8 a1) ac2 ap0 _ ?side1 ?side2 ?side3 ?side4 ?side5 ?side6 A27.out).mono ?_
    (case side1 => exact uf2_ bg)
    (case side2 => exact bx.out)
    (case side3 => exact uf2_ bb)
    (case side4 => exact b2.out)
    (case side5 => repeat (first | exact (by repeat (first | (with_reducible exact wl.out) | (with_reducible refine Kd.C_alloc ?_ _) | (with_reducible refine Kd.C_drewN ?_ _) | (with_reducible refine Kd.C_drew ?_) | exact wl.out)) | (with_reducible refine Kd.C_alloc ?_ _) | (with_reducible refine Kd.C_drewN ?_ _) | (with_reducible refine Kd.C_drew ?_)))
    (case side6 => exact di3.out)
    rintro e w37 ⟨di4, el6, rfl, aj, em, hb⟩
    have HS2_ := (hb.cell (World.block_lt_of_cell? _ _ (hHeld.2.2))).trans (hHeld.2.2)
    refine ⟨_, rfl, ?_⟩
    replace bh9 := Aside0.mk (Kd.V_mono (Kd.V_told (Kd.V_told (Kd.V_old (uf5_ bh9) hb) (Kd.R_base aj)) (Kd.N_base (g41_))) (fun _ h_ => h_.1))
    have ce6 := Aside0.mk (Kd.R_lower (Kd.R_newM (M := fun k_ => (w.heap.size ≤ k_)) aj (below_size (d7)) (fun k_ h_ => h_)) (below_size (d7)))
    have ce7 := Aside0.mk (Kd.N_lower (Kd.N_mono (ok' := fun k_ => (w.heap.size ≤ k_) ∧ some k_ ≠ (di4 : Value).ownBlock ∧ some k_ ≠ (.slice (some ce1) g8.length di0 : Value).ownBlock ∧ k_ ≠ d4 ∧ k_ ≠ cy) (Kd.S_N (Kd.S_bound em)) (fun k_ hk_ => ⟨(Nat.le_trans (below_size (d7)) hk_.2.1), hk_.1, (Kd.fresh' (Kd.N_lt (uf4_ gf)) k_ hk_.2.1), (Kd.freshB (g := d4) (o := .cells #[.slice ae ab.length ac, .slice ag aa.length af] 25 (0, 0)) (uf0_ ck) k_ hk_.2.1), (Kd.freshB (g := cy) (o := .cells #[.slice none 0 0, .slice none 0 0] 25 (0, 0)) (uf0_ dn) k_ hk_.2.1)⟩)) (below_size (d7)))
    replace gf := Aside0.mk (Kd.N_mono (Kd.N_told (Kd.N_told (Kd.N_old (uf4_ gf) hb) (Kd.R_base aj)) (Kd.N_base (g41_))) (fun _ h_ => h_.1))
    replace ck := bb_ ck hb
    replace dn := bb_ dn hb
    replace wl := Aside0.mk (Kd.C_below (by repeat (first | (with_reducible exact wl.out) | (with_reducible refine Kd.C_alloc ?_ _) | (with_reducible refine Kd.C_drewN ?_ _) | (with_reducible refine Kd.C_drew ?_) | exact wl.out)) hb)
    replace HB := Aside0.mk (below_step (d7) hb)
    (try clear hb)
    (try clear hk hi)
    (try clear aj)
    (try clear em)
    obtain ⟨ap3, ap4, ce8⟩ := Kd.R_slice ce6.out
    (first | subst ce8 | (injection ce8 with f1_ f2_ f3_; have f4_ := f1_.symm; have f5_ := f3_.symm; clear f1_ f2_ f3_; subst f4_; subst f5_))
    obtain ⟨bi0, bi1, ce9⟩ := Kd.N_slice ce7.out
    (first | subst ce9 | (injection ce9 with f1_ f2_ f3_; have f4_ := f1_.symm; have f5_ := f3_.symm; clear f1_ f2_ f3_; subst f4_; subst f5_))
    refine hK.out _ _ ⟨(blk_cell ck.out 0).trans rfl, (blk_cell ck.out 1).trans rfl, HS2_⟩ (fun hHeld => ?_)
    clear hK K
    refine nm_ ?_
    refine one_ (i := 6) (N := none) (tl_ 8 127) rfl rfl (one_of HT_.out (g1_)) (by decide) (fun K hK => ?_)
    have el7 : w37.cell? ⟨cy, 0, none⟩ = some (.slice none 0 0) := (blk_cell dn.out 0).trans rfl
    have el8 := blk_frozen dn.out 0
    have el9 := lb.out
    have em0 := qa.out
    have em1 : w37.cell? ⟨cy, 1, none⟩ = some (.slice none 0 0) := (blk_cell dn.out 1).trans rfl
    have em2 := blk_frozen dn.out 1
    have em3 := lb.out
    have em4 := qa.out
    refine skip_ (w1 := ?_) (by rfl) rfl ?_ ?_
    rotate_left
    ·go_simp
     rfl
    refine hK.out _ _ ⟨(cf_ lb ((cf_ lb (hHeld.1)))), (cf_ lb ((cf_ lb (hHeld.2.1)))), ((cell_far (p := ⟨cy, _, none⟩) (by first | exact Kd.own_blk (Kd.N_away gf.out (fun _ hk => hk.1.1.2.2)) | (rw [add_block]; exact Kd.own_blk (Kd.N_away gf.out (fun _ hk => hk.1.1.2.2))) | (show (Addr.add _ _).block ≠ _; rw [add_block]; exact Kd.own_blk (Kd.N_away gf.out (fun _ hk => hk.1.1.2.2))) | (dsimp only; exact Kd.own_blk (Kd.N_away gf.out (fun _ hk => hk.1.1.2.2)))) _).trans (((cell_far (p := ⟨cy, _, none⟩) (by first | exact Kd.own_blk (Kd.N_away gf.out (fun _ hk => hk.1.1.2.2)) | (rw [add_block]; exact Kd.own_blk (Kd.N_away gf.out (fun _ hk => hk.1.1.2.2))) | (show (Addr.add _ _).block ≠ _; rw [add_block]; exact Kd.own_blk (Kd.N_away gf.out (fun _ hk => hk.1.1.2.2))) | (dsimp only; exact Kd.own_blk (Kd.N_away gf.out (fun _ hk => hk.1.1.2.2)))) _).trans (hHeld.2.2))))⟩ (fun hHeld => ?_)
    clear hK K
    refine pw_ 7 5 (tl_ 8 255) rfl rfl ?_
    refine done_ (done_of HT_.out (g1_)) ?_
    try go_wp2
    refine bodyPost_ret (results_ct rfl _ _ cy 25 #[.slice ap3 ac2.length ap4, .slice bi0 ap0.length bi1] (0, 0) _ rfl (by (with_reducible repeat (first | refine blk_drewN ?_ _ | refine blk_drew ?_ | refine blk_alloc ?_ _)); refine blk_put (cs := #[.slice ap3 ac2.length ap4, .slice none 0 0]) ?_ 1 _ rfl; refine blk_put (cs := #[.slice none 0 0, .slice none 0 0]) ?_ 0 _ rfl; exact uf0_ dn) Try.underlying25 rfl (g1_)) rfl ?_
    exact ⟨_, _, g4_, by (with_reducible repeat (first | apply Kd.R_alloc | apply Kd.R_drewN | apply Kd.R_drew)); exact Kd.R_mono (Kd.R_far (p := ⟨cy, 1, none⟩) (Kd.R_far (p := ⟨cy, 0, none⟩) (Kd.R_types ce6.out dn.out (by decide)) (fun _ hk => hk.2) (.slice ap3 ac2.length ap4)) (fun _ hk => hk.2) (.slice bi0 ap0.length bi1)) (fun _ hk => hk.1.1), by (with_reducible repeat (first | apply Kd.N_alloc | apply Kd.N_drewN | apply Kd.N_drew)); exact Kd.N_mono (Kd.N_far (p := ⟨cy, 1, none⟩) (Kd.N_far (p := ⟨cy, 0, none⟩) (Kd.N_mono ce7.out (fun k_ hk => (⟨hk, hk.2.2.2.2⟩ : _ ∧ k_ ≠ cy))) (fun _ hk => hk.2) (.slice ap3 ac2.length ap4)) (fun _ hk => hk.2) (.slice bi0 ap0.length bi1)) (fun _ hk => ⟨hk.1.1, hk.1.2.1⟩), d7⟩
 ·replace c4 := Bool.eq_false_iff.mpr c4
  subst c4
  replace H := ifn_ H
  simp only [Option.some.injEq, Prod.mk.injEq] at H
  obtain ⟨rfl, rfl, rfl⟩ := H
  go_enter Try.func48, Try.ntmps48
  go_wp2_with (first | ((with_reducible refine gate_dst (N := 2) rfl ?_); (try (refine gate_guard (by rfl) ?_; dsimp only)); refine bx_ (N := 2) #[.slice ae ab.length ac, .slice ag aa.length af] 25 ?_; intro d4 hg w42 hbox hb; have ck := Aside0.mk (hbox); have bh2 := Aside0.mk ((g7_ : w.heap.size ≤ d4)); have ao8 := Aside0.mk ((g7_ : w.heap.size ≤ d4)); replace HB := Aside0.mk (below_step (d7) hb); clear hb hbox hg) | ((with_reducible refine gate_dst (N := 4) rfl ?_); (try (refine gate_guard (by rfl) ?_; dsimp only)); refine bx_ (N := 4) #[.slice none 0 0, .slice none 0 0] 25 ?_; intro cy hg w43 hbox hb; have dn := Aside0.mk (hbox); have bh3 := Aside0.mk ((g7_ : w.heap.size ≤ cy)); have ao9 := Aside0.mk ((g7_ : w.heap.size ≤ cy)); replace HB := Aside0.mk (below_step (d7) hb); have lb := Aside0.mk ((g39_ : d4 ≠ cy)); have qa := Aside0.mk ((g40_ : cy ≠ d4)); replace ck := bb_ ck hb; clear hb hbox hg; have cd7 := lb.out; have cd8 := qa.out; obtain ⟨em5, em6, em7, em8⟩ := blk2_ ck) | ((with_reducible refine gate_callee (f := 73) rfl ?_); refine goesL_ (some 8) rfl rfl Try.func73 k_ rfl #[.agg #[.slice ae ab.length ac, .slice ag aa.length af]] rfl (g3_) ?_; (with_reducible refine (impl_isBook.calls k _ _ ab _ _ aa false _ ?side1 ?side2 ?side3 ?side4 A3.out).mono ?_); (case side1 => exact uf2_ bg); (case side2 => exact bx.out); (case side3 => exact uf2_ bb); (case side4 => exact b2.out); rintro e w46 ⟨rfl, hb⟩; refine ⟨_, rfl, ?_⟩; replace ck := bb_ ck hb; replace dn := bb_ dn hb; replace HB := Aside0.mk (below_step (d7) hb); (try clear hb); (try clear hk hi); obtain ⟨em9, en0, en1, en2⟩ := blk2_ dn))
  refine bodyPost_ret (results_ct rfl _ _ cy 25 #[.slice none 0 0, .slice none 0 0] (0, 0) _ rfl (g62_) Try.underlying25 rfl (g1_)) rfl ?_
  exact ⟨_, _, g4_, g17_, g13_, d7⟩
def spec_l2Copy.l0 : Nat → Int → List Int → List (List Int) → List Int → List (List Int) → Option (List Int × (List (List Int)))
 | 0, _, _, _, _, _ => none
 | k + 1, x4, di5, ap5, cf0, bi2 => if x4 < (ap5.length : Int) then ((some (([] : List Int) : List Int)).bind fun ud => (if 0 ≤ x4 then (if ud.length + (rd_L1 ap5 x4).length < 17592186044416 then (if bi2.length < 5864062014805 then (spec_l2Copy.l0 k (wrap64 (x4 + 1)) di5 ap5 cf0 (bi2 ++ [(ud ++ (rd_L1 ap5 x4))])) else (none)) else (none)) else (none))) else (some (cf0, bi2))
def spec_l2Copy.f (k : Nat) (ab : List Int) (aa : List (List Int)) : Option (List Int × (List (List Int))) := (some (([] : List Int) : List Int)).bind fun om => (if om.length + ab.length < 17592186044416 then (spec_l2Copy.l0 k 0 ab aa (om ++ ab) ([] : List (List Int))) else (none))
theorem spec_l2Copy.mq {p : Prop} (h : p := by
 repeat' first
 | (with_reducible exact ih0 _ _ _ _ _)
 | (with_reducible exact LeO.refl _)
 | (with_reducible exact LeO.none _)
 | (with_reducible refine LeO.ite ?_ ?_)
 | (with_reducible refine LeO.bind ?_ (fun _ => ?_))
 | exact ih0 _ _ _ _ _
 | exact LeO.none _
 | refine LeO.ite ?_ ?_
 | refine LeO.bind ?_ (fun _ => ?_)) : p := h
theorem spec_l2Copy.mono_l : ∀ k, (∀ y0 y1 y2 y3 y4, LeO (spec_l2Copy.l0 k y0 y1 y2 y3 y4) (spec_l2Copy.l0 (k + 1) y0 y1 y2 y3 y4))
 | 0 => fun _ _ _ _ _ r h => by simp [spec_l2Copy.l0] at h
 | k + 1 => by
  have ih0 := spec_l2Copy.mono_l k
  ·intro y0 y1 y2 y3 y4
   unfold spec_l2Copy.l0
   exact spec_l2Copy.mq
theorem spec_l2Copy.mono : ∀ a0 a1 k, LeO (spec_l2Copy.f k a0 a1) (spec_l2Copy.f (k + 1) a0 a1) := by
 intro a0 a1 k
 have ih0 := spec_l2Copy.mono_l k
 unfold spec_l2Copy.f
 exact spec_l2Copy.mq
def spec_l2Copy.T5 : Bool × List (List Nat × List Nat) := (true, [([], []), ([0], [0]), ([], []), ([], []), ([3], [3]), ([], []), ([4, 5], [4, 5]), ([6], [6]), ([2, 7], [2, 7]), ([8], [8]), ([1, 9, 8], [1, 9]), ([0, 1, 2, 3, 4, 5, 6, 7, 8, 9, 10], []), ([11, 10, 10, 0, 1, 2, 3, 4, 5, 6, 7, 8, 9, 10], [10, 11])])
def spec_l2Copy.B5 : List Nat := [0, 1, 0, 0, 8, 0, 56, 120, 252, 508, 1023, 2047, 4095]
theorem spec_l2Copy.tab5 : rtab .any (opsOf Try.f80 5) = spec_l2Copy.T5 := by kernel_rfl
theorem spec_l2Copy.bits5 : waitsOk spec_l2Copy.T5.2 spec_l2Copy.B5 = true := by kernel_rfl
theorem ir {p : Prop} (h : p := by repeat (first | (with_reducible first | exact HB.out | apply below_alloc | apply pw_below_drewN | apply below_drew1 | refine below_set ?_ di6.out | refine below_set ?_ di7.out | refine below_set ?_ di8.out) | exact HB.out)) : p := h
set_option maxHeartbeats 8000000 in
set_option maxRecDepth 100000 in
theorem spec_l2Copy.calls (k : Nat) (ae : Option Addr) (ac : Nat) (ab : List Int) (ag : Option Addr) (af : Nat) (aa : List (List Int)) (r1 : List Int) (r2 : List (List Int)) (w : World) (bo : Kd.C (Kd.int .i64) w ae ab.length ab) (bs : ab.length ≤ ac) (bp : Kd.C (Kd.slice 3 (Kd.int .i64)) w ag aa.length aa) (bt : aa.length ≤ af) (h : spec_l2Copy.f k ab aa = some (r1, r2)) :
  Calls Try.prog 80 #[.agg #[.slice ae ab.length ac, .slice ag aa.length af]] w fun e w' => ∃ v0_ v1_ : Value, e = .returned (.agg #[v0_, v1_]) ∧ Kd.R (Kd.int .i64) 3 w' w.heap.size (fun _ => True) v0_ r1 ∧ Kd.S (Kd.slice 3 (Kd.int .i64)) 22 w' w.heap.size (fun k_ => some k_ ≠ (v0_ : Value).ownBlock) v1_ r2 ∧ Below w.heap.size w w' := by
 have hu25 := Try.underlying25
 have bg := Aside0.mk bo
 have bx := Aside0.mk bs
 clear bo bs
 have bb := Aside0.mk bp
 have b2 := Aside0.mk bt
 clear bp bt
 have HB := Aside0.mk (Below.refl w.heap.size w)
 have H : ((some (([] : List Int) : List Int)).bind fun om => (if om.length + ab.length < 17592186044416 then (spec_l2Copy.l0 k 0 ab aa (om ++ ab) ([] : List (List Int))) else (none))) = some (r1, r2) := h
 clear h
 obtain ⟨om, hy381⟩ : ∃ y_ : List Int, y_ = (([] : List Int)) := ⟨_, rfl⟩
 replace H : (if om.length + ab.length < 17592186044416 then (spec_l2Copy.l0 k 0 ab aa (om ++ ab) ([] : List (List Int))) else (none)) = some (r1, r2) := by first | (rw [hy381]; with_reducible exact H) | (have H2_ := (Option.bind_some _ _).symm.trans H; rw [hy381]; with_reducible exact H2_) | (have H2_ := (Option.bind_some _ _).symm.trans H; with_reducible exact H2_) | with_reducible exact H | (rw [hy381]; exact H) | exact H
 have cf1 := Aside0.mk hy381
 clear hy381
 obtain ⟨c2, H⟩ := pos_ H
 have bf0 := Aside0.mk c2
 clear c2
 obtain ⟨fo, hy384⟩ : ∃ y_ : List Int, y_ = (om ++ ab) := ⟨_, rfl⟩
 replace H : (spec_l2Copy.l0 k 0 ab aa fo ([] : List (List Int))) = some (r1, r2) := by first | (rw [hy384]; with_reducible exact H) | (have H2_ := (Option.bind_some _ _).symm.trans H; rw [hy384]; with_reducible exact H2_) | (have H2_ := (Option.bind_some _ _).symm.trans H; with_reducible exact H2_) | with_reducible exact H | (rw [hy384]; exact H) | exact H
 have di9 := Aside0.mk hy384
 clear hy384
 have H' := Aside0.mk H
 clear H
 go_enter Try.func80, Try.ntmps80
 go_wp2_with (first | ((with_reducible refine gate_dst (N := 1) rfl ?_); refine bx_ (N := 1) #[.slice ae ab.length ac, .slice ag aa.length af] 25 ?_; intro i3 hg w3 hbox hb; have cz := Aside0.mk (hbox); have en3 := Aside0.mk ((g26_ : w.heap.size ≤ i3)); have di6 := Aside0.mk ((g26_ : w.heap.size ≤ i3)); replace HB := Aside0.mk (below_step (ir) hb); clear hb hbox hg) | ((with_reducible refine gate_dst (N := 2) rfl ?_); refine bx_ (N := 2) #[.slice none 0 0, .slice none 0 0] 25 ?_; intro io hg w4 hbox hb; have ew := Aside0.mk (hbox); have en4 := Aside0.mk ((g26_ : w.heap.size ≤ io)); have di7 := Aside0.mk ((g26_ : w.heap.size ≤ io)); replace HB := Aside0.mk (below_step (ir) hb); have bi3 := Aside0.mk ((by rw [hg]; exact Nat.ne_of_lt (blk_lt (g := i3) (o := .cells #[.slice ae ab.length ac, .slice ag aa.length af] 25 (0, 0)) (uf0_ cz)) : i3 ≠ io)); have bi4 := Aside0.mk ((by rw [hg]; exact Nat.ne_of_gt (blk_lt (g := i3) (o := .cells #[.slice ae ab.length ac, .slice ag aa.length af] 25 (0, 0)) (uf0_ cz)) : io ≠ i3)); replace cz := bb_ cz hb; clear hb hbox hg) | ((with_reducible refine gate_dst (N := 5) rfl ?_); refine Kd.R_lit (Kd.int .i64) _ 3 ?hg (N := 5) ?hd (xs := ([] : List Int)) (inner := []) (ok := fun _ => True) (okp := fun _ => True) ?hr ?hp (fun _ hk => hk) trivial (Below.refl _ _) (Nat.le_refl _) (by simp) ?_; (case hd => rfl); (case hg => rfl); (case hr => first | (go_simp; done) | (go_simp; rfl)); (case hp => exact (Reps.none _ _)); intro dj0 w5 nj hb hg_ hnew_; clear hg_ hnew_; (first | rw [← cf1.out] at nj | (simp only [Int.reduceToNat] at nj; rw [← cf1.out] at nj)); have ap6 := Aside0.mk (Kd.R_lower nj (below_size (ir))); replace cz := bb_ cz hb; replace ew := bb_ ew hb; replace HB := Aside0.mk (below_step (ir) hb); clear hb nj; have dc3 := bi3.out; have dc4 := bi4.out; obtain ⟨js, jt, ju, jv⟩ := blk2_ cz) | ((with_reducible refine gate_builtin (b := .append) (xs := #[.tmp 5, .tmp 7]) rfl ?_); at_builtin; refine Kd.R_append_rows (Kd.int .i64) (w0 := w) w.heap.size rfl (.tmp 5) (.tmp 7) 22 3 (.int .i64 0) 8 rfl Try.underlying22 info3 rfl (by decide) (by omega) dj0 om ab _ _ _ (fun _ => True) (fun _ => False) rfl rfl ?aO ?aR (fun _ _ h => h) (fun _ h => h.elim) ?aF ?aB ?aS ?aL ?_; (case aR => exact uf2_ bg); (case aB => exact (ir)); (case aF => exact (fun _ _ => trivial)); (case aO => exact (uf1_ ap6)); (case aS => exact (below_size (ir))); (case aL => have := bf0.out; omega); intro en5 w9 ho hb hg hat; rw [← di9.out] at ho; replace cz := Aside0.mk (blk_grown (g := i3) (o := .cells #[.slice ae ab.length ac, .slice ag aa.length af] 25 (0, 0)) (uf0_ cz) hg (Kd.R_ne ap6.out cz.out (by decide))); replace ew := Aside0.mk (blk_grown (g := io) (o := .cells #[.slice none 0 0, .slice none 0 0] 25 (0, 0)) (uf0_ ew) hg (Kd.R_ne ap6.out ew.out (by decide))); replace HB := Aside0.mk (hb); have ap7 := Aside0.mk (ho); clear ap6; clear ho hb hg hat; obtain ⟨b4, b5, o7⟩ := Kd.R_slice ap7.out; subst o7) | ((with_reducible refine gate_dst (N := 3) rfl ?_); refine bx_ (N := 3) #[.slice none 0 0, .slice none 0 0] 25 ?_; intro i4 hg w11 hbox hb; replace ap7 := Aside0.mk (Kd.R_below (uf1_ ap7) hb); have d5 := Aside0.mk (hbox); have en6 := Aside0.mk ((g26_ : w.heap.size ≤ i4)); have di8 := Aside0.mk ((g26_ : w.heap.size ≤ i4)); replace HB := Aside0.mk (below_step (ir) hb); have ue := Aside0.mk ((by rw [hg]; exact Nat.ne_of_lt (blk_lt (g := i3) (o := .cells #[.slice ae ab.length ac, .slice ag aa.length af] 25 (0, 0)) (uf0_ cz)) : i3 ≠ i4)); have ap8 := Aside0.mk ((by rw [hg]; exact Nat.ne_of_gt (blk_lt (g := i3) (o := .cells #[.slice ae ab.length ac, .slice ag aa.length af] 25 (0, 0)) (uf0_ cz)) : i4 ≠ i3)); replace cz := bb_ cz hb; have wm := Aside0.mk ((by rw [hg]; exact Nat.ne_of_lt (blk_lt (g := io) (o := .cells #[.slice none 0 0, .slice none 0 0] 25 (0, 0)) (uf0_ ew)) : io ≠ i4)); have bi5 := Aside0.mk ((by rw [hg]; exact Nat.ne_of_gt (blk_lt (g := io) (o := .cells #[.slice none 0 0, .slice none 0 0] 25 (0, 0)) (uf0_ ew)) : i4 ≠ io)); replace ew := bb_ ew hb; clear hb hbox hg; have am3 := ap8.out; have am4 := ue.out; have ah9 := bi5.out; have ai0 := wm.out; obtain ⟨u2, u4, u6, u7⟩ := blk2_ d5))
 go_loopg [4] k (fun kq v4 w' => ∃ (db : Int) (l7 : List (List Int)) (nn : Value), v4 = .int .i64 db ∧ Aside0 (spec_l2Copy.l0 kq db ab aa fo l7 = some (r1, r2)) ∧ Aside0 (kq ≤ k) ∧ Aside0 (Kd.R (Kd.int .i64) 3 w' w.heap.size (fun _ => True) (.slice b4 fo.length b5) fo) ∧ Aside0 (Kd.S (Kd.slice 3 (Kd.int .i64)) 22 w' w.heap.size (fun k_ => some k_ ≠ ((.slice b4 fo.length b5) : Value).ownBlock) nn l7) ∧ Aside0 (w'.heap[i3]? = some (.cells #[(.slice ae ab.length ac), (.slice ag aa.length af)] 25 (0, 0))) ∧ Aside0 (w'.heap[io]? = some (.cells #[(.slice none 0 0), (.slice none 0 0)] 25 (0, 0))) ∧ Aside0 (w'.heap[i4]? = some (.cells #[(.slice b4 fo.length b5), nn] 25 (0, 0))) ∧ Aside0 (Below w.heap.size w w'))
 case atStart => exact ⟨(0), (([] : List (List Int))), (.slice none 0 0), (g2_), H', ⟨Nat.le_refl _⟩, ⟨by (with_reducible repeat (first | apply Kd.R_alloc | apply Kd.R_drewN | apply Kd.R_drew)); exact Kd.R_mono (Kd.R_far (p := ⟨i4, 1, none⟩) (Kd.R_far (p := ⟨i4, 0, none⟩) (Kd.R_types ap7.out d5.out (by decide)) (fun _ hk => hk.2) (.slice b4 fo.length b5)) (fun _ hk => hk.2) (.slice none 0 0)) (fun _ hk => trivial)⟩, ⟨g13_⟩, ⟨by (with_reducible repeat (first | refine blk_drewN ?_ _ | refine blk_drew ?_ | refine blk_alloc ?_ _)); refine blk_far ?_ ue.out _; refine blk_far ?_ ue.out _; exact uf0_ cz⟩, ⟨by (with_reducible repeat (first | refine blk_drewN ?_ _ | refine blk_drew ?_ | refine blk_alloc ?_ _)); refine blk_far ?_ wm.out _; refine blk_far ?_ wm.out _; exact uf0_ ew⟩, ⟨by (with_reducible repeat (first | refine blk_drewN ?_ _ | refine blk_drew ?_ | refine blk_alloc ?_ _)); refine blk_put (cs := #[.slice b4 fo.length b5, .slice none 0 0]) ?_ 1 _ rfl; refine blk_put (cs := #[.slice none 0 0, .slice none 0 0]) ?_ 0 _ rfl; exact uf0_ d5⟩, ⟨ir⟩⟩
 case round =>
  clear H'
  try clear c1
  try clear c2
  try clear p2
  try clear c7
  try clear c8
  try clear cu
  try clear eh
  try clear u2
  try clear u4
  try clear js
  try clear jt
  try clear u6
  try clear u7
  try clear ju
  try clear jv
  obtain ⟨db, l7, nn, rfl, HA, HK1, ki, ip, cz, ew, d5, HB⟩ := hrel
  cases gk with
  | zero => exact absurd HA.out (by simp [spec_l2Copy.l0])
  | succ k1 =>
   have H := HA.out
   clear HA
   simp only [spec_l2Copy.l0] at H
   by_cases bq : db < (aa.length : Int)
   ·rw [if_pos bq] at H
    have fz := decide_eq_true bq
    clear bq
    obtain ⟨ud, hy388⟩ : ∃ y_ : List Int, y_ = (([] : List Int)) := ⟨_, rfl⟩
    replace H : (if 0 ≤ db then (if ud.length + (rd_L1 aa db).length < 17592186044416 then (if l7.length < 5864062014805 then (spec_l2Copy.l0 k1 (wrap64 (db + 1)) ab aa fo (l7 ++ [(ud ++ (rd_L1 aa db))])) else (none)) else (none)) else (none)) = some (r1, r2) := by first | (rw [hy388]; with_reducible exact H) | (have H2_ := (Option.bind_some _ _).symm.trans H; rw [hy388]; with_reducible exact H2_) | (have H2_ := (Option.bind_some _ _).symm.trans H; with_reducible exact H2_) | with_reducible exact H | (rw [hy388]; exact H) | exact H
    have cf2 := Aside0.mk hy388
    clear hy388
    obtain ⟨dh, H⟩ := pos_ H
    have ln := decide_eq_true dh
    clear dh
    obtain ⟨dp, H⟩ := pos_ H
    have dj1 := Aside0.mk dp
    clear dp
    obtain ⟨ac3, hy392⟩ : ∃ y_ : List Int, y_ = (ud ++ (rd_L1 aa db)) := ⟨_, rfl⟩
    replace H : (if l7.length < 5864062014805 then (spec_l2Copy.l0 k1 (wrap64 (db + 1)) ab aa fo (l7 ++ [ac3])) else (none)) = some (r1, r2) := by first | (rw [hy392]; with_reducible exact H) | (have H2_ := (Option.bind_some _ _).symm.trans H; rw [hy392]; with_reducible exact H2_) | (have H2_ := (Option.bind_some _ _).symm.trans H; with_reducible exact H2_) | with_reducible exact H | (rw [hy392]; exact H) | exact H
    have dj2 := Aside0.mk hy392
    clear hy392
    obtain ⟨ix, H⟩ := pos_ H
    have dj3 := Aside0.mk ix
    clear ix
    obtain ⟨ac4, hy395⟩ : ∃ y_ : List (List Int), y_ = (l7 ++ [ac3]) := ⟨_, rfl⟩
    replace H : (spec_l2Copy.l0 k1 (wrap64 (db + 1)) ab aa fo ac4) = some (r1, r2) := by first | (rw [hy395]; with_reducible exact H) | (have H2_ := (Option.bind_some _ _).symm.trans H; rw [hy395]; with_reducible exact H2_) | (have H2_ := (Option.bind_some _ _).symm.trans H; with_reducible exact H2_) | with_reducible exact H | (rw [hy395]; exact H) | exact H
    have dj4 := Aside0.mk hy395
    clear hy395
    have H' := Aside0.mk H
    clear H
    have en7 := bi3.out
    have en8 := bi4.out
    have en9 := ue.out
    have eo0 := ap8.out
    obtain ⟨xg, xh, ah1, xi⟩ := blk2_ cz
    try go_wp2
    replace ki := Aside0.mk (Kd.R_drew ki.out)
    replace ip := Aside0.mk (Kd.S_drew ip.out)
    replace cz := Aside0.mk (blk_drew cz.out)
    replace ew := Aside0.mk (blk_drew ew.out)
    replace d5 := Aside0.mk (blk_drew d5.out)
    replace HB := Aside0.mk (below_drew1 HB.out)
    have bi6 : 0 ≤ (db : Int) := of_decide_eq_true (g0_)
    have bi7 : db < (aa.length : Int) := of_decide_eq_true (g0_)
    obtain ⟨ap9, dj5, dj6, dj7, aq0, cf3, cf4⟩ := at_L1 bb.out db bi6 bi7
    have wn := aq0
    cases dj7
    replace aq0 := cl_ HB aq0
    have cf5 := Aside0.mk cf4
    have eo1 := Aside0.mk cf3
    clear cf4 cf3
    replace bi6 := eq_true bi6
    replace bi7 := eq_true bi7
    refine start_ (n := 13) (S := fun w' => w'.cell? ⟨i4, 0, none⟩ = some (.slice b4 fo.length b5) ∧ w'.cell? ⟨i4, 1, none⟩ = some (nn) ∧ w'.cell? ⟨i3, 0, none⟩ = some (.slice ae ab.length ac) ∧ w'.cell? ⟨i3, 1, none⟩ = some (.slice (some ap9) aa.length af) ∧ w'.cell? (ap9.add (db).toNat) = some (.slice dj5 (rd_L1 aa db).length dj6)) (ds := [12]) (tl_ 13 0) (g1_) rfl (g1_) ⟨(blk_cell d5.out 0).trans rfl, (blk_cell d5.out 1).trans rfl, (blk_cell cz.out 0).trans rfl, (blk_cell cz.out 1).trans rfl, ((cl_ HB wn).trans rfl)⟩ (fun hHeld => ?_); refine with_tabW spec_l2Copy.tab5 spec_l2Copy.bits5 (fun HT_ HW_ => ?_)
    generalize wr.drew = zo at ki ip cz ew d5 HB cf5 aq0 hHeld ⊢
    refine pw_ 0 17 (tl_ 13 1) rfl rfl ?_
    refine pw_ 3 20 (tl_ 13 9) rfl rfl ?_
    refine pw_ 5 22 (tl_ 13 41) rfl rfl ?_
    refine tk4_ 1 18 (tl_ 13 43) rfl rfl hHeld ?_
    refine tk4_ 4 21 (tl_ 13 59) rfl rfl hHeld ?_
    refine pw_ 6 23 (tl_ 13 123) rfl rfl ?_
    refine tk4_ 7 24 (tl_ 13 251) rfl rfl hHeld ?_
    refine one_ (i := 2) (N := some 19) (tl_ 13 255) rfl rfl (one_of HT_.out (g1_)) (by decide) (fun K hK => ?_)
    refine Kd.R_lit_step (Kd.int .i64) _ 3 ?hg (N := 19) ?hd (xs := ([] : List Int)) (inner := []) (ok := fun _ => True) (okp := fun _ => True) ?hr ?hp (fun _ hk => hk) trivial (Below.refl _ _) (Nat.le_refl _) (by simp) ?_; (case hd => rfl); (case hg => rfl); (case hr => first | (go_simp; done) | (go_simp; rfl)); (case hp => exact (Reps.none _ _))
    intro dj8 w23 uf hb hg_ hnew_
    clear hg_ hnew_
    (first | rw [← cf2.out] at uf | (simp only [Int.reduceToNat] at uf; rw [← cf2.out] at uf))
    replace ip := Aside0.mk (Kd.S_elder' (uf3_ ip) (Kd.R_base uf) hb)
    have ac5 := Aside0.mk (Kd.R_lower (Kd.R_new' uf (Kd.R_lt (uf1_ ki))) (below_size (ir)))
    replace ki := Aside0.mk (Kd.R_elder' (uf1_ ki) (Kd.R_base uf) hb)
    replace cz := bb_ cz hb
    replace ew := bb_ ew hb
    replace d5 := bb_ d5 hb
    replace HB := Aside0.mk (below_step (ir) hb)
    clear hb uf
    refine hK.out _ _ ⟨(blk_cell d5.out 0).trans rfl, (blk_cell d5.out 1).trans rfl, (blk_cell cz.out 0).trans rfl, (blk_cell cz.out 1).trans rfl, ((cl_ HB wn).trans rfl)⟩ (fun hHeld => ?_)
    clear hK K
    refine nm_ ?_
    refine one_ (i := 8) (N := some 25) (tl_ 13 511) rfl rfl (one_of HT_.out (g1_)) (by decide) (fun K hK => ?_)
    refine Kd.R_append_rows_step (Kd.int .i64) (w0 := w) w.heap.size (by rfl) (.tmp 19) (.tmp 24) 22 3 (.int .i64 0) 8 rfl Try.underlying22 info3 rfl (by decide) (by omega) dj8 ud (rd_L1 aa db) _ _ _ (fun k_ => some k_ ≠ (.slice b4 fo.length b5 : Value).ownBlock) (fun _ => False) rfl rfl ?aO ?aR (fun _ _ h => h) (fun _ h => h.elim) ?aF ?aB ?aS ?aL ?_
    (case aR => exact uf2_ cf5)
    (case aB => exact (ir))
    (case aF => exact (fun k_ hk => Kd.fresh' (Kd.R_lt (uf1_ ki)) k_ hk))
    (case aO => exact (by (with_reducible repeat (first | apply Kd.R_alloc | apply Kd.R_drewN | apply Kd.R_drew)); exact Kd.R_mono ac5.out (fun _ hk => hk.2)))
    (case aS => exact (below_size (ir)))
    (case aL => have := dj1.out; omega)
    intro eo2 ms ho hb hg hat
    rw [← dj2.out] at ho
    replace ki := Aside0.mk (Kd.R_after (ok := (fun _ => True)) (uf1_ ki) hg hat)
    replace ip := Aside0.mk (Kd.S_after (ok := (fun k_ => some k_ ≠ (.slice b4 fo.length b5 : Value).ownBlock)) (uf3_ ip) hg hat)
    replace cz := Aside0.mk (blk_grown (g := i3) (o := .cells #[.slice ae ab.length ac, .slice (some ap9) aa.length af] 25 (0, 0)) (uf0_ cz) hg (Kd.R_ne ac5.out cz.out (by decide)))
    replace ew := Aside0.mk (blk_grown (g := io) (o := .cells #[.slice none 0 0, .slice none 0 0] 25 (0, 0)) (uf0_ ew) hg (Kd.R_ne ac5.out ew.out (by decide)))
    replace d5 := Aside0.mk (blk_grown (g := i4) (o := .cells #[.slice b4 fo.length b5, nn] 25 (0, 0)) (uf0_ d5) hg (Kd.R_ne ac5.out d5.out (by decide)))
    replace HB := Aside0.mk (hb)
    have aq1 := Aside0.mk (ho)
    clear ac5
    clear ho hb hg hat
    obtain ⟨wg, wh, ab3⟩ := Kd.R_slice aq1.out
    (first | subst ab3 | (injection ab3 with f1_ f2_ f3_; have f4_ := f1_.symm; have f5_ := f3_.symm; clear f1_ f2_ f3_; subst f4_; subst f5_))
    refine hK.out _ _ ⟨(blk_cell d5.out 0).trans rfl, (blk_cell d5.out 1).trans rfl, (blk_cell cz.out 0).trans rfl, (blk_cell cz.out 1).trans rfl, ((cl_ HB wn).trans rfl)⟩ (fun hHeld => ?_)
    clear hK K
    refine nm_ ?_
    refine one_ (i := 9) (N := some 26) (tl_ 13 1023) rfl rfl (one_of HT_.out (g1_)) (by decide) (fun K hK => ?_)
    refine value_ (w1 := ?_) (v := ?_) (by rfl) rfl ?_ ?_
    rotate_left 2
    ·go_simp
     constructor
     ·rfl
     ·rfl
    refine hK.out _ _ ⟨(blk_cell (blk_alloc d5.out _) 0).trans rfl, (blk_cell (blk_alloc d5.out _) 1).trans rfl, (blk_cell (blk_alloc cz.out _) 0).trans rfl, (blk_cell (blk_alloc cz.out _) 1).trans rfl, (World.cell?_alloc_lt _ _ _ (World.block_lt_of_cell? _ _ (((cl_ HB wn).trans rfl)))).trans (((cl_ HB wn).trans rfl))⟩ (fun hHeld => ?_)
    clear hK K
    refine nm_ ?_
    refine one_ (i := 10) (N := some 27) (tl_ 13 2047) rfl rfl (one_of HT_.out (g1_)) (by decide) (fun K hK => ?_)
    refine Kd.S_append_step (Kd.slice 3 (Kd.int .i64)) (w0 := w) w.heap.size (by rfl) (.tmp 18) (.tmp 26) 23 22 (.slice none 0 0) 24 rfl Try.underlying23 info22 rfl (by decide) (by omega) nn l7 ac3 [.slice wg ac3.length wh] (fun k_ => some k_ ≠ (.slice b4 fo.length b5 : Value).ownBlock) (fun k_ => some k_ = (.slice wg ac3.length wh : Value).ownBlock) rfl rfl ?aP (fun k_ hk_ => ((Kd.R_mono (ok' := fun k_ => ((fun k_ => some k_ ≠ (.slice b4 fo.length b5 : Value).ownBlock)) k_ ∧ some k_ ≠ (nn : Value).ownBlock) (Kd.R_apart' (aq1.out) (Kd.S_typed ip.out) (by decide)) (fun k_ hk => ⟨hk.1, hk.2⟩))).1 k_ hk_.symm) ?aF ?aO ?aB ?aS ?aL ?_
    (case aP => exact Kd.M_row (Kd.R_mono (Kd.R_tight rfl (Kd.R_mono (ok' := fun k_ => ((fun k_ => some k_ ≠ (.slice b4 fo.length b5 : Value).ownBlock)) k_ ∧ some k_ ≠ (nn : Value).ownBlock) (Kd.R_apart' (aq1.out) (Kd.S_typed ip.out) (by decide)) (fun k_ hk => ⟨hk.1, hk.2⟩))) (fun _ h_ => h_)))
    (case aB => exact (ir))
    (case aF => exact (fun k_ hk => Kd.fresh' (Kd.R_lt (uf1_ ki)) k_ hk))
    (case aO => exact (by (with_reducible repeat (first | apply Kd.S_alloc | apply Kd.S_drewN | apply Kd.S_drew)); exact Kd.S_mono ip.out (fun k_ hk => ⟨hk.1, fun e_ => hk.2 e_⟩)))
    (case aS => exact (below_size (ir)))
    (case aL => have := dj3.out; omega)
    intro eo3 yp ho hb hg hat
    rw [← dj4.out] at ho
    replace ki := Aside0.mk (Kd.R_over' (uf1_ ki) (Kd.S_typed (uf3_ ip)) (by decide) hg)
    replace cz := Aside0.mk (blk_grown (g := i3) (o := .cells #[.slice ae ab.length ac, .slice (some ap9) aa.length af] 25 (0, 0)) (uf0_ cz) hg (Kd.S_ne ip.out cz.out (by decide)))
    replace ew := Aside0.mk (blk_grown (g := io) (o := .cells #[.slice none 0 0, .slice none 0 0] 25 (0, 0)) (uf0_ ew) hg (Kd.S_ne ip.out ew.out (by decide)))
    replace d5 := Aside0.mk (blk_grown (g := i4) (o := .cells #[.slice b4 fo.length b5, nn] 25 (0, 0)) (uf0_ d5) hg (Kd.S_ne ip.out d5.out (by decide)))
    replace HB := Aside0.mk (hb)
    have cf6 := Aside0.mk (ho)
    clear ip aq1
    clear ho hb hg hat
    obtain ⟨aj0, vf, aj1⟩ := Kd.S_slice cf6.out
    (first | subst aj1 | (injection aj1 with f1_ f2_ f3_; have f4_ := f1_.symm; have f5_ := f3_.symm; clear f1_ f2_ f3_; subst f4_; subst f5_))
    refine hK.out _ _ ⟨(blk_cell d5.out 0).trans rfl, (blk_cell d5.out 1).trans rfl, (blk_cell cz.out 0).trans rfl, (blk_cell cz.out 1).trans rfl, ((cl_ HB wn).trans rfl)⟩ (fun hHeld => ?_)
    clear hK K
    refine nm_ ?_
    refine pw_ 11 28 (tl_ 13 4095) rfl rfl ?_
    refine last_ (i := 12) (N := none) (tl_ 13 8191) rfl rfl (one_of HT_.out (g1_)) (by decide) (fun K hK => ?_)
    have eo4 : yp.cell? ⟨i4, 1, none⟩ = some (nn) := (blk_cell d5.out 1).trans rfl
    have eo5 := blk_frozen d5.out 1
    have eo6 := ue.out
    have eo7 := wm.out
    have eo8 := ap8.out
    have ep0 := bi5.out
    refine skip_ (w1 := ?_) (by rfl) rfl ?_ ?_
    rotate_left
    ·go_simp
     rfl
    refine hK.out _ _ ?_
    clear hK K
    refine done_ (done_of HT_.out (g1_)) ?_
    try go_wp2
    go_roundg k1
    case measure => have := HK1.out; omega
    case rel => exact ⟨(wrap64 (db + 1)), (ac4), (.slice aj0 ac4.length vf), (g2_), H', ⟨g8_⟩, ⟨by (with_reducible repeat (first | apply Kd.R_alloc | apply Kd.R_drewN | apply Kd.R_drew)); exact Kd.R_mono (Kd.R_far (p := ⟨i4, 1, none⟩) (Kd.R_types ki.out d5.out (by decide)) (fun _ hk => hk.2) (.slice aj0 ac4.length vf)) (fun _ hk => trivial)⟩, ⟨by (with_reducible repeat (first | apply Kd.S_alloc | apply Kd.S_drewN | apply Kd.S_drew)); exact Kd.S_mono (Kd.S_far (p := ⟨i4, 1, none⟩) (Kd.S_types cf6.out d5.out (by decide)) (fun _ hk => hk.2) (.slice aj0 ac4.length vf)) (fun _ hk => hk.1)⟩, ⟨by (with_reducible repeat (first | refine blk_drewN ?_ _ | refine blk_drew ?_ | refine blk_alloc ?_ _)); refine blk_far ?_ ue.out _; exact uf0_ cz⟩, ⟨by (with_reducible repeat (first | refine blk_drewN ?_ _ | refine blk_drew ?_ | refine blk_alloc ?_ _)); refine blk_far ?_ wm.out _; exact uf0_ ew⟩, ⟨by (with_reducible repeat (first | refine blk_drewN ?_ _ | refine blk_drew ?_ | refine blk_alloc ?_ _)); refine blk_put (cs := #[.slice b4 fo.length b5, nn]) ?_ 1 _ rfl; exact uf0_ d5⟩, ⟨ir⟩⟩
   ·rw [if_neg bq] at H
    have fz := decide_eq_false bq
    clear bq
    simp only [Option.some.injEq, Prod.mk.injEq] at H
    obtain ⟨rfl, rfl⟩ := H
    have cb8 := bi3.out
    have cb9 := bi4.out
    have dj9 := ue.out
    have dk0 := ap8.out
    obtain ⟨cf7, cf8, cf9, cg0⟩ := blk2_ cz
    have ep1 := bi5.out
    have ep2 := wm.out
    obtain ⟨ep3, ep4, ep5, ep6⟩ := blk2_ d5
    obtain ⟨ep7, ep8, ep9, eq0⟩ := blk2_ ew
    obtain ⟨bi8, bi9, dk1⟩ := Kd.S_slice ip.out
    subst dk1
    go_wp2
    refine bodyPost_ret (results_cell_row rfl _ _ io 25 #[.slice b4 fo.length b5, .slice bi8 l7.length bi9] (0, 0) _ rfl (by (with_reducible repeat (first | refine blk_drewN ?_ _ | refine blk_drew ?_ | refine blk_alloc ?_ _)); refine blk_put (cs := #[.slice b4 fo.length b5, .slice none 0 0]) ?_ 1 _ rfl; refine blk_put (cs := #[.slice none 0 0, .slice none 0 0]) ?_ 0 _ rfl; exact uf0_ ew) Try.underlying25 rfl (g1_)) rfl ?_
    exact ⟨_, _, g4_, by (with_reducible repeat (first | apply Kd.R_alloc | apply Kd.R_drewN | apply Kd.R_drew)); exact Kd.R_mono (Kd.R_far (p := ⟨io, 1, none⟩) (Kd.R_far (p := ⟨io, 0, none⟩) (Kd.R_types ki.out ew.out (by decide)) (fun _ hk => hk.2) (.slice b4 fo.length b5)) (fun _ hk => hk.2) (.slice bi8 l7.length bi9)) (fun _ hk => trivial), by (with_reducible repeat (first | apply Kd.S_alloc | apply Kd.S_drewN | apply Kd.S_drew)); exact Kd.S_mono (Kd.S_far (p := ⟨io, 1, none⟩) (Kd.S_far (p := ⟨io, 0, none⟩) (Kd.S_types ip.out ew.out (by decide)) (fun _ hk => hk.2) (.slice b4 fo.length b5)) (fun _ hk => hk.2) (.slice bi8 l7.length bi9)) (fun _ hk => hk.1), ir⟩
mutual
def spec_l3Struck.l0 : Nat → List Int → Int → Int → List Int → List (List Int) → List Int → List (List Int) → Option (List Int × (List (List Int)))
 | 0, _, _, _, _, _, _, _ => none
 | k + 1, x1, x6, x7, aq2, oo, ac6, rp => if x7 < (x1.length : Int) then (if 0 ≤ x7 then (if 0 ≤ (rd x1 x7) then (if (rd x1 x7) < (oo.length : Int) then (if (x1.length : Int) = 0 then (none) else (if 0 ≤ (Int.tmod (wrap64 (x7 + 1)) (x1.length : Int)) then (if (Int.tmod (wrap64 (x7 + 1)) (x1.length : Int)) < (x1.length : Int) then (if 0 ≤ (rd x1 (Int.tmod (wrap64 (x7 + 1)) (x1.length : Int))) then (if (rd x1 (Int.tmod (wrap64 (x7 + 1)) (x1.length : Int))) < ((rd_L1 oo (rd x1 x7)).length : Int) then (spec_l3Struck.l0 k x1 (mn x6 (rd (rd_L1 oo (rd x1 x7)) (rd x1 (Int.tmod (wrap64 (x7 + 1)) (x1.length : Int))))) (wrap64 (x7 + 1)) aq2 oo ac6 rp) else (none)) else (none)) else (none)) else (none))) else (none)) else (none)) else (none)) else (spec_l3Struck.l1 k x1 x6 0 aq2 oo ac6 rp)
def spec_l3Struck.l1 : Nat → List Int → Int → Int → List Int → List (List Int) → List Int → List (List Int) → Option (List Int × (List (List Int)))
 | 0, _, _, _, _, _, _, _ => none
 | k + 1, x1, x6, x8, aq2, oo, ac6, rp => if x8 < (x1.length : Int) then (if 0 ≤ x8 then (if (x1.length : Int) = 0 then (none) else (if 0 ≤ (Int.tmod (wrap64 (x8 + 1)) (x1.length : Int)) then (if (Int.tmod (wrap64 (x8 + 1)) (x1.length : Int)) < (x1.length : Int) then (if 0 ≤ (rd x1 x8) then (if (rd x1 x8) < (rp.length : Int) then (if (rd x1 x8) < (oo.length : Int) then (if 0 ≤ (rd x1 (Int.tmod (wrap64 (x8 + 1)) (x1.length : Int))) then (if (rd x1 (Int.tmod (wrap64 (x8 + 1)) (x1.length : Int))) < ((rd_L1 oo (rd x1 x8)).length : Int) then (if (rd x1 (Int.tmod (wrap64 (x8 + 1)) (x1.length : Int))) < ((rd_L1 rp (rd x1 x8)).length : Int) then (spec_l3Struck.l1 k x1 x6 (wrap64 (x8 + 1)) aq2 oo ac6 (rp.set ((rd x1 x8) : Int).toNat ((rd_L1 rp (rd x1 x8)).set ((rd x1 (Int.tmod (wrap64 (x8 + 1)) (x1.length : Int))) : Int).toNat (wrap64 ((rd (rd_L1 oo (rd x1 x8)) (rd x1 (Int.tmod (wrap64 (x8 + 1)) (x1.length : Int)))) - x6))))) else (none)) else (none)) else (none)) else (none)) else (none)) else (none)) else (none)) else (none))) else (none)) else (some (ac6, rp))
end
def spec_l3Struck.f (k : Nat) (ab : List Int) (aa : List (List Int)) (l1 : List Int) : Option (List Int × (List (List Int))) := (spec_l2Copy.f k ab aa).bind fun bt400 => (spec_l3Struck.l0 k l1 9 0 ab aa bt400.1 bt400.2)
theorem spec_l3Struck.mq {p : Prop} (h : p := by
 repeat' first
 | (with_reducible exact ih0 _ _ _ _ _ _ _)
 | (with_reducible exact ih1 _ _ _ _ _ _ _)
 | (with_reducible exact spec_l2Copy.mono _ _ _)
 | (with_reducible exact LeO.refl _)
 | (with_reducible exact LeO.none _)
 | (with_reducible refine LeO.ite ?_ ?_)
 | (with_reducible refine LeO.bind ?_ (fun _ => ?_))
 | exact ih0 _ _ _ _ _ _ _
 | exact ih1 _ _ _ _ _ _ _
 | exact spec_l2Copy.mono _ _ _
 | exact LeO.none _
 | refine LeO.ite ?_ ?_
 | refine LeO.bind ?_ (fun _ => ?_)) : p := h
theorem spec_l3Struck.mono_l : ∀ k, (∀ y0 y1 y2 y3 y4 y5 y6, LeO (spec_l3Struck.l0 k y0 y1 y2 y3 y4 y5 y6) (spec_l3Struck.l0 (k + 1) y0 y1 y2 y3 y4 y5 y6)) ∧ (∀ y0 y1 y2 y3 y4 y5 y6, LeO (spec_l3Struck.l1 k y0 y1 y2 y3 y4 y5 y6) (spec_l3Struck.l1 (k + 1) y0 y1 y2 y3 y4 y5 y6))
 | 0 => ⟨fun _ _ _ _ _ _ _ r h => by simp [spec_l3Struck.l0] at h, fun _ _ _ _ _ _ _ r h => by simp [spec_l3Struck.l1] at h⟩
 | k + 1 => by
  obtain ⟨ih0, ih1⟩ := spec_l3Struck.mono_l k
  refine ⟨?_, ?_⟩
  ·intro y0 y1 y2 y3 y4 y5 y6
   unfold spec_l3Struck.l0
   exact spec_l3Struck.mq
  ·intro y0 y1 y2 y3 y4 y5 y6
   unfold spec_l3Struck.l1
   exact spec_l3Struck.mq
theorem spec_l3Struck.mono : ∀ a0 a1 a2 k, LeO (spec_l3Struck.f k a0 a1 a2) (spec_l3Struck.f (k + 1) a0 a1 a2) := by
 intro a0 a1 a2 k
 obtain ⟨ih0, ih1⟩ := spec_l3Struck.mono_l k
 unfold spec_l3Struck.f
 exact spec_l3Struck.mq
def spec_l3Struck.T6 : Bool × List (List Nat × List Nat) := (true, [([], []), ([], []), ([1], [1]), ([], []), ([], []), ([3, 4], [3, 4]), ([5], [5]), ([2, 6], [2, 6]), ([7], [7]), ([], []), ([], []), ([10], [10]), ([], []), ([12], [12]), ([11, 13], [11, 13]), ([9, 14], [9, 14]), ([15], [15]), ([8, 16], [8, 16]), ([17], [17]), ([0, 18], [0, 18]), ([19, 0, 1, 2, 3, 4, 5, 6, 7, 8, 9, 10, 11, 12, 13, 14, 15, 16, 17, 18, 19], [0, 19])])
def spec_l3Struck.B6 : List Nat := [0, 0, 2, 0, 0, 24, 56, 126, 254, 0, 0, 1024, 0, 4096, 15360, 32256, 65024, 131070, 262142, 524287, 1048575]
theorem spec_l3Struck.tab6 : rtab .any (opsOf Try.f98 6) = spec_l3Struck.T6 := by kernel_rfl
theorem spec_l3Struck.bits6 : waitsOk spec_l3Struck.T6.2 spec_l3Struck.B6 = true := by kernel_rfl
def spec_l3Struck.T12 : Bool × List (List Nat × List Nat) := (true, [([], []), ([0], [0]), ([], []), ([1, 2], [1, 2]), ([3], [3]), ([], []), ([], []), ([6], [6]), ([], []), ([7, 8], [7, 8]), ([9], [9]), ([], []), ([10, 11], [10, 11]), ([12], [12]), ([], []), ([13, 14], [13, 14]), ([4, 5, 0, 1, 2, 3, 4, 5, 6, 7, 8, 9, 10, 11, 12, 13, 14, 15], [4, 5]), ([16, 15, 0, 1, 2, 3, 4, 5, 6, 7, 8, 9, 10, 11, 12, 13, 14, 15], [15, 16])])
def spec_l3Struck.B12 : List Nat := [0, 1, 0, 7, 15, 0, 0, 64, 0, 448, 960, 0, 4032, 8128, 0, 32704, 65535, 131071]
theorem spec_l3Struck.tab12 : rtab .any (opsOf Try.f98 12) = spec_l3Struck.T12 := by kernel_rfl
theorem spec_l3Struck.bits12 : waitsOk spec_l3Struck.T12.2 spec_l3Struck.B12 = true := by kernel_rfl
theorem mb {p : Prop} (h : p := by repeat (first | (with_reducible first | exact HB.out | apply below_alloc | apply pw_below_drewN | apply below_drew1 | refine below_set ?_ dk2.out | refine below_set ?_ dk3.out | refine below_set ?_ dk4.out | refine below_set ?_ GB39.out) | exact HB.out)) : p := h
set_option maxHeartbeats 8000000 in
set_option maxRecDepth 100000 in
theorem spec_l3Struck.calls (k : Nat) (ae : Option Addr) (ac : Nat) (ab : List Int) (ag : Option Addr) (af : Nat) (aa : List (List Int)) (A1 : Option Addr) (c1 : Nat) (l1 : List Int) (r1 : List Int) (r2 : List (List Int)) (w : World) (bo : Kd.C (Kd.int .i64) w ae ab.length ab) (bs : ab.length ≤ ac) (bp : Kd.C (Kd.slice 3 (Kd.int .i64)) w ag aa.length aa) (bt : aa.length ≤ af) (er : Kd.C (Kd.int .i64) w A1 l1.length l1) (ey : l1.length ≤ c1) (h : spec_l3Struck.f k ab aa l1 = some (r1, r2)) :
  Calls Try.prog 98 #[.agg #[.slice ae ab.length ac, .slice ag aa.length af], .slice A1 l1.length c1] w fun e w' => ∃ v0_ v1_ : Value, e = .returned (.agg #[v0_, v1_]) ∧ Kd.R (Kd.int .i64) 3 w' w.heap.size (fun _ => True) v0_ r1 ∧ Kd.S (Kd.slice 3 (Kd.int .i64)) 22 w' w.heap.size (fun k_ => some k_ ≠ (v0_ : Value).ownBlock) v1_ r2 ∧ Below w.heap.size w w' := by
 have hu25 := Try.underlying25
 have bg := Aside0.mk bo
 have bx := Aside0.mk bs
 clear bo bs
 have bb := Aside0.mk bp
 have b2 := Aside0.mk bt
 clear bp bt
 have dc := Aside0.mk er
 have uz := Aside0.mk ey
 clear er ey
 have HB := Aside0.mk (Below.refl w.heap.size w)
 have H : ((spec_l2Copy.f k ab aa).bind fun bt400 => (spec_l3Struck.l0 k l1 9 0 ab aa bt400.1 bt400.2)) = some (r1, r2) := h
 clear h
 replace H := Option.bind_eq_some_iff.mp H
 obtain ⟨⟨lc, np⟩, j3, H⟩ := H
 try dsimp only at H
 have A3 := Aside0.mk j3
 clear j3
 have H' := Aside0.mk H
 clear H
 go_enter Try.func98, Try.ntmps98
 go_wp2_with (first | ((with_reducible refine gate_dst (N := 2) rfl ?_); refine bx_ (N := 2) #[.slice ae ab.length ac, .slice ag aa.length af] 25 ?_; intro i5 hg w4 hbox hb; have en := Aside0.mk (hbox); have eq1 := Aside0.mk ((g27_ : w.heap.size ≤ i5)); have dk2 := Aside0.mk ((g27_ : w.heap.size ≤ i5)); replace HB := Aside0.mk (below_step (mb) hb); clear hb hbox hg) | ((with_reducible refine gate_dst (N := 4) rfl ?_); refine bx_ (N := 4) #[.slice none 0 0, .slice none 0 0] 25 ?_; intro jq hg w5 hbox hb; have fv := Aside0.mk (hbox); have eq2 := Aside0.mk ((g27_ : w.heap.size ≤ jq)); have dk3 := Aside0.mk ((g27_ : w.heap.size ≤ jq)); replace HB := Aside0.mk (below_step (mb) hb); have cg1 := Aside0.mk ((by rw [hg]; exact Nat.ne_of_lt (blk_lt (g := i5) (o := .cells #[.slice ae ab.length ac, .slice ag aa.length af] 25 (0, 0)) (uf0_ en)) : i5 ≠ jq)); have cg2 := Aside0.mk ((by rw [hg]; exact Nat.ne_of_gt (blk_lt (g := i5) (o := .cells #[.slice ae ab.length ac, .slice ag aa.length af] 25 (0, 0)) (uf0_ en)) : jq ≠ i5)); replace en := bb_ en hb; clear hb hbox hg; have de2 := cg1.out; have de3 := cg2.out; obtain ⟨i8, i9, ja, jb⟩ := blk2_ en) | ((with_reducible refine gate_callee (f := 80) rfl ?_); refine goesL_ (some 12) rfl rfl Try.func80 k_ rfl #[.agg #[.slice ae ab.length ac, .slice ag aa.length af]] rfl (g3_) ?_; (with_reducible refine (spec_l2Copy.calls k _ _ ab _ _ aa lc np _ ?side1 ?side2 ?side3 ?side4 A3.out).mono ?_); (case side1 => exact uf2_ bg); (case side2 => exact bx.out); (case side3 => exact uf2_ bb); (case side4 => exact b2.out); rintro e w8 ⟨eq3, eq4, rfl, aj, em, hb⟩; refine ⟨_, rfl, ?_⟩; have aq3 := Aside0.mk (Kd.R_lower aj (below_size (mb))); have aq4 := Aside0.mk (Kd.S_lower em (below_size (mb))); replace en := bb_ en hb; replace fv := bb_ fv hb; replace HB := Aside0.mk (below_step (mb) hb); (try clear hb); (try clear hk hi); (try clear aj); (try clear em)) | ((with_reducible refine gate_dst (N := 5) rfl ?_); refine bx_ (N := 5) #[.slice none 0 0, .slice none 0 0] 25 ?_; intro kj hg w9 hbox hb; replace aq3 := Aside0.mk (Kd.R_below (uf1_ aq3) hb); replace aq4 := Aside0.mk (Kd.S_below (uf3_ aq4) hb); have gw := Aside0.mk (hbox); have eq5 := Aside0.mk ((g27_ : w.heap.size ≤ kj)); have dk4 := Aside0.mk ((g27_ : w.heap.size ≤ kj)); replace HB := Aside0.mk (below_step (mb) hb); have aq5 := Aside0.mk ((by rw [hg]; exact Nat.ne_of_lt (blk_lt (g := i5) (o := .cells #[.slice ae ab.length ac, .slice ag aa.length af] 25 (0, 0)) (uf0_ en)) : i5 ≠ kj)); have cg3 := Aside0.mk ((by rw [hg]; exact Nat.ne_of_gt (blk_lt (g := i5) (o := .cells #[.slice ae ab.length ac, .slice ag aa.length af] 25 (0, 0)) (uf0_ en)) : kj ≠ i5)); replace en := bb_ en hb; have aq6 := Aside0.mk ((by rw [hg]; exact Nat.ne_of_lt (blk_lt (g := jq) (o := .cells #[.slice none 0 0, .slice none 0 0] 25 (0, 0)) (uf0_ fv)) : jq ≠ kj)); have cg4 := Aside0.mk ((by rw [hg]; exact Nat.ne_of_gt (blk_lt (g := jq) (o := .cells #[.slice none 0 0, .slice none 0 0] 25 (0, 0)) (uf0_ fv)) : kj ≠ jq)); replace fv := bb_ fv hb; clear hb hbox hg; obtain ⟨b4, b5, o7⟩ := Kd.R_slice aq3.out; subst o7; have cc4 := cg3.out; have cc5 := aq5.out; have am3 := cg4.out; have am4 := aq6.out; obtain ⟨lh, li, lj, lk⟩ := blk2_ gw; obtain ⟨bj, be, ny⟩ := Kd.S_slice aq4.out; subst ny))
 go_loopg [6, 7] k (fun kq v6 v7 w' => ∃ (d3 : Int) (fg : Int), v6 = .int .i64 d3 ∧ v7 = .int .i64 fg ∧ Aside0 (spec_l3Struck.l0 kq l1 d3 fg ab aa lc np = some (r1, r2)) ∧ Aside0 (kq ≤ k) ∧ Aside0 (Kd.R (Kd.int .i64) 3 w' w.heap.size (fun _ => True) (.slice b4 lc.length b5) lc) ∧ Aside0 (Kd.S (Kd.slice 3 (Kd.int .i64)) 22 w' w.heap.size (fun k_ => some k_ ≠ ((.slice b4 lc.length b5) : Value).ownBlock) (.slice bj np.length be) np) ∧ Aside0 (w'.heap[i5]? = some (.cells #[(.slice ae ab.length ac), (.slice ag aa.length af)] 25 (0, 0))) ∧ Aside0 (w'.heap[jq]? = some (.cells #[(.slice none 0 0), (.slice none 0 0)] 25 (0, 0))) ∧ Aside0 (w'.heap[kj]? = some (.cells #[(.slice b4 lc.length b5), (.slice bj np.length be)] 25 (0, 0))) ∧ Aside0 (Below w.heap.size w w'))
 case atStart => exact ⟨(9), (0), (g2_), (g2_), H', ⟨Nat.le_refl _⟩, ⟨by (with_reducible repeat (first | apply Kd.R_alloc | apply Kd.R_drewN | apply Kd.R_drew)); exact Kd.R_mono (Kd.R_far (p := ⟨kj, 1, none⟩) (Kd.R_far (p := ⟨kj, 0, none⟩) (Kd.R_types aq3.out gw.out (by decide)) (fun _ hk => hk.2) (.slice b4 lc.length b5)) (fun _ hk => hk.2) (.slice bj np.length be)) (fun _ hk => trivial)⟩, ⟨by (with_reducible repeat (first | apply Kd.S_alloc | apply Kd.S_drewN | apply Kd.S_drew)); exact Kd.S_mono (Kd.S_far (p := ⟨kj, 1, none⟩) (Kd.S_far (p := ⟨kj, 0, none⟩) (Kd.S_types aq4.out gw.out (by decide)) (fun _ hk => hk.2) (.slice b4 lc.length b5)) (fun _ hk => hk.2) (.slice bj np.length be)) (fun _ hk => hk.1)⟩, ⟨by (with_reducible repeat (first | refine blk_drewN ?_ _ | refine blk_drew ?_ | refine blk_alloc ?_ _)); refine blk_far ?_ aq5.out _; refine blk_far ?_ aq5.out _; exact uf0_ en⟩, ⟨by (with_reducible repeat (first | refine blk_drewN ?_ _ | refine blk_drew ?_ | refine blk_alloc ?_ _)); refine blk_far ?_ aq6.out _; refine blk_far ?_ aq6.out _; exact uf0_ fv⟩, ⟨by (with_reducible repeat (first | refine blk_drewN ?_ _ | refine blk_drew ?_ | refine blk_alloc ?_ _)); refine blk_put (cs := #[.slice b4 lc.length b5, .slice none 0 0]) ?_ 1 _ rfl; refine blk_put (cs := #[.slice none 0 0, .slice none 0 0]) ?_ 0 _ rfl; exact uf0_ gw⟩, ⟨mb⟩⟩
 case round =>
  clear H'
  try clear c1
  try clear p2
  try clear c6
  try clear c8
  try clear c9
  try clear da
  try clear cu
  try clear lh
  try clear li
  try clear i8
  try clear i9
  try clear lj
  try clear lk
  try clear ja
  try clear jb
  obtain ⟨d3, fg, rfl, rfl, HA, HK1, l8, g9, en, fv, gw, HB⟩ := hrel
  cases gk with
  | zero => exact absurd HA.out (by simp [spec_l3Struck.l0])
  | succ k1 =>
   have H := HA.out
   clear HA
   simp only [spec_l3Struck.l0] at H
   by_cases bq : fg < (l1.length : Int)
   ·rw [if_pos bq] at H
    have fz := decide_eq_true bq
    clear bq
    obtain ⟨dh, H⟩ := pos_ H
    have ln := decide_eq_true dh
    clear dh
    obtain ⟨dp, H⟩ := pos_ H
    have ll := decide_eq_true dp
    clear dp
    obtain ⟨ix, H⟩ := pos_ H
    have yi := decide_eq_true ix
    clear ix
    by_cases dd : (l1.length : Int) = 0
    ·rw [if_pos dd] at H
     exact absurd H (by simp)
    ·rw [if_neg dd] at H
     have qh : ((l1.length : Int) == 0) = false := beq_eq_false_iff_ne.mpr dd
     have xe : ((l1.length : Int) != 0) = true := bne_iff_ne.mpr dd
     have xf : ¬ (l1 = []) := fun h_ => dd (by rw [h_]; rfl)
     obtain ⟨ji20, hji20⟩ : ∃ j_ : Int, (Int.tmod (wrap64 (fg + 1)) (l1.length : Int)) = j_ := ⟨_, rfl⟩
     replace H : (if 0 ≤ (ji20) then (if (ji20) < (l1.length : Int) then (if 0 ≤ (rd l1 (ji20)) then (if (rd l1 (ji20)) < ((rd_L1 aa (rd l1 fg)).length : Int) then (spec_l3Struck.l0 k1 l1 (mn d3 (rd (rd_L1 aa (rd l1 fg)) (rd l1 (ji20)))) (wrap64 (fg + 1)) ab aa lc np) else (none)) else (none)) else (none)) else (none)) = some (r1, r2) := by first | (rw [hji20] at H; exact H) | (simp only [hji20] at H ⊢; exact H)
     obtain ⟨gr, H⟩ := pos_ H
     have ax6 := decide_eq_true gr
     clear gr
     obtain ⟨je, H⟩ := pos_ H
     have ak8 := decide_eq_true je
     clear je
     obtain ⟨fa, H⟩ := pos_ H
     have sy := decide_eq_true fa
     clear fa
     obtain ⟨fk, H⟩ := pos_ H
     have r7 := decide_eq_true fk
     clear fk
     obtain ⟨ji25, hji25⟩ : ∃ j_ : Int, (mn d3 (rd (rd_L1 aa (rd l1 fg)) (rd l1 (ji20)))) = j_ := ⟨_, rfl⟩
     replace H : (spec_l3Struck.l0 k1 l1 ji25 (wrap64 (fg + 1)) ab aa lc np) = some (r1, r2) := by first | (rw [hji25] at H; exact H) | (simp only [hji25] at H ⊢; exact H)
     have hji25_ : (if (rd (rd_L1 aa (rd l1 fg)) (rd l1 (ji20))) < d3 then (rd (rd_L1 aa (rd l1 fg)) (rd l1 (ji20))) else d3) = ji25 := hji25
     have H' := Aside0.mk H
     clear H
     try go_wp2
     replace l8 := Aside0.mk (Kd.R_drew l8.out)
     replace g9 := Aside0.mk (Kd.S_drew g9.out)
     replace en := Aside0.mk (blk_drew en.out)
     replace fv := Aside0.mk (blk_drew fv.out)
     replace gw := Aside0.mk (blk_drew gw.out)
     replace HB := Aside0.mk (below_drew1 HB.out)
     have aq7 : 0 ≤ (fg : Int) := of_decide_eq_true (g0_)
     have aq8 : fg < (l1.length : Int) := of_decide_eq_true (g0_)
     obtain ⟨bj0, dk5, ac7⟩ := Kd.at_int dc.out fg aq7 aq8
     have dk6 := ac7
     cases dk5
     replace ac7 := cl_ HB ac7
     replace aq7 := eq_true aq7
     replace aq8 := eq_true aq8
     have aq9 : 0 ≤ ((rd l1 fg) : Int) := of_decide_eq_true (g0_)
     have ar0 : (rd l1 fg) < (aa.length : Int) := of_decide_eq_true (g0_)
     obtain ⟨cg5, eq6, dk7, dk8, ac8, cg6, cg7⟩ := at_L1 bb.out (rd l1 fg) aq9 ar0
     have dk9 := ac8
     cases dk8
     replace ac8 := cl_ HB ac8
     have cg8 := Aside0.mk cg7
     have eq7 := Aside0.mk cg6
     clear cg7 cg6
     replace aq9 := eq_true aq9
     replace ar0 := eq_true ar0
     have ar1 : 0 ≤ ((ji20) : Int) := of_decide_eq_true (g0_)
     have ar2 : (ji20) < (l1.length : Int) := of_decide_eq_true (g0_)
     obtain ⟨dl0, dl1, ac9⟩ := Kd.at_int dc.out (ji20) ar1 ar2
     have dl2 := ac9
     obtain rfl : bj0 = dl0 := (by injection dl1)
     replace ac9 := cl_ HB ac9
     replace ar1 := eq_true ar1
     replace ar2 := eq_true ar2
     have ar3 : 0 ≤ ((rd l1 (ji20)) : Int) := of_decide_eq_true (g0_)
     have ar4 : (rd l1 (ji20)) < ((rd_L1 aa (rd l1 fg)).length : Int) := of_decide_eq_true (g0_)
     obtain ⟨cg9, dl3, ad2⟩ := Kd.at_int cg8.out (rd l1 (ji20)) ar3 ar4
     have dl4 := ad2
     cases dl3
     replace ad2 := cl_ HB ad2
     replace ar3 := eq_true ar3
     replace ar4 := eq_true ar4
     refine start_ (n := 21) (S := fun w' => w'.cell? ⟨i5, 0, none⟩ = some (.slice ae ab.length ac) ∧ w'.cell? ⟨i5, 1, none⟩ = some (.slice (some cg5) aa.length af) ∧ w'.cell? (bj0.add (fg).toNat) = some (.int .i64 (rd l1 fg)) ∧ w'.cell? (cg5.add ((rd l1 fg)).toNat) = some (.slice (some cg9) (rd_L1 aa (rd l1 fg)).length dk7) ∧ w'.cell? (bj0.add ((ji20)).toNat) = some (.int .i64 (rd l1 (ji20))) ∧ w'.cell? (cg9.add ((rd l1 (ji20))).toNat) = some (.int .i64 (rd (rd_L1 aa (rd l1 fg)) (rd l1 (ji20))))) (ds := []) (tl_ 21 0) (g1_) rfl (g1_) ⟨(blk_cell en.out 0).trans rfl, (blk_cell en.out 1).trans rfl, ((cl_ HB dk6).trans rfl), ((cl_ HB dk9).trans rfl), ((cl_ HB dl2).trans rfl), ((cl_ HB dl4).trans rfl)⟩ (fun hHeld => ?_); refine with_tabW spec_l3Struck.tab6 spec_l3Struck.bits6 (fun HT_ HW_ => ?_)
     generalize wr.drew = yp at l8 g9 en fv gw HB cg8 ac7 ac8 ac9 ad2 hHeld ⊢
     refine pw_ 0 19 (tl_ 21 1) rfl rfl ?_
     refine pw_ 1 20 (tl_ 21 3) rfl rfl ?_
     refine pw_ 3 22 (tl_ 21 11) rfl rfl ?_
     refine pw_ 4 23 (tl_ 21 27) rfl rfl ?_
     refine pw_ 5 24 (tl_ 21 59) rfl rfl ?_
     refine pw_ 9 28 (tl_ 21 571) rfl rfl ?_
     refine pw_ 10 29 (tl_ 21 1595) rfl rfl ?_
     refine pw_ 11 30 (tl_ 21 3643) rfl rfl ?_
     refine pw_ 12 31 (tl_ 21 7739) rfl rfl ?_
     refine pw_ 13 32 (tl_ 21 15931) rfl rfl ?_
     refine pw_ 14 33 (tl_ 21 32315) rfl rfl ?_
     refine pw_ 15 34 (tl_ 21 65083) rfl rfl ?_
     refine tk2_ 2 21 (tl_ 21 65087) rfl rfl hHeld ?_
     refine tk2_ 6 25 (tl_ 21 65151) rfl rfl hHeld ?_
     refine pw_ 7 26 (tl_ 21 65279) rfl rfl ?_
     refine tk2_ 8 27 (tl_ 21 65535) rfl rfl hHeld ?_
     refine tk2_ 16 35 (tl_ 21 131071) rfl rfl hHeld ?_
     refine pw_ 17 36 (tl_ 21 262143) rfl rfl ?_
     refine tk2_ 18 37 (tl_ 21 524287) rfl rfl hHeld ?_
     refine pw_ 19 38 (tl_ 21 1048575) rfl rfl ?_
     refine pw_ 20 6 (tl_ 21 2097151) rfl rfl ?_
     refine done_ (done_of HT_.out (g1_)) ?_
     try go_wp2
     go_roundg k1
     case measure => have := HK1.out; omega
     case rel => exact ⟨(ji25), (wrap64 (fg + 1)), (by first | rfl | (simp; done) | (simp only [← hji25] <;> (first | rfl | simp)) | (simp [*]; done)), (g2_), H', ⟨g8_⟩, ⟨uf1_ l8⟩, ⟨uf3_ g9⟩, ⟨uf0_ en⟩, ⟨uf0_ fv⟩, ⟨uf0_ gw⟩, ⟨mb⟩⟩
   ·rw [if_neg bq] at H
    have fz := decide_eq_false bq
    clear bq
    have H' := Aside0.mk H
    clear H
    go_wp2
    go_loopg [8] k1 (fun kq v8 w' => ∃ (cm : Int) (nq : List Int) (f5 : List (List Int)) (wo : Value) (bj1 : Value), v8 = .int .i64 cm ∧ Aside0 (spec_l3Struck.l1 kq l1 d3 cm ab aa nq f5 = some (r1, r2)) ∧ Aside0 (kq ≤ k1) ∧ Aside0 (Kd.R (Kd.int .i64) 3 w' w.heap.size (fun _ => True) wo nq) ∧ Aside0 (Kd.S (Kd.slice 3 (Kd.int .i64)) 22 w' w.heap.size (fun k_ => some k_ ≠ (wo : Value).ownBlock) bj1 f5) ∧ Aside0 (w'.heap[i5]? = some (.cells #[(.slice ae ab.length ac), (.slice ag aa.length af)] 25 (0, 0))) ∧ Aside0 (w'.heap[jq]? = some (.cells #[(.slice none 0 0), (.slice none 0 0)] 25 (0, 0))) ∧ Aside0 (w'.heap[kj]? = some (.cells #[wo, bj1] 25 (0, 0))) ∧ Aside0 (Below w.heap.size w w'))
    case atStart => exact ⟨(0), (lc), (np), (.slice b4 lc.length b5), (.slice bj np.length be), (g2_), H', ⟨Nat.le_refl _⟩, ⟨uf1_ l8⟩, ⟨uf3_ g9⟩, ⟨uf0_ en⟩, ⟨uf0_ fv⟩, ⟨uf0_ gw⟩, ⟨mb⟩⟩
    case round =>
     clear H'
     try clear c1
     try clear c2
     try clear p2
     try clear c4
     try clear p4
     try clear q4
     try clear hx4
     try clear c6
     try clear p6
     try clear c8
     try clear c9
     try clear da
     try clear cu
     try clear bq
     try clear fz
     try clear dh
     try clear ln
     try clear dp
     try clear ll
     try clear ix
     try clear yi
     try clear dd
     try clear qh
     try clear xe
     try clear xf
     try clear gr
     try clear ax6
     try clear je
     try clear ak8
     try clear fa
     try clear sy
     try clear fk
     try clear r7
     try clear lh
     try clear li
     try clear i8
     try clear i9
     try clear lj
     try clear lk
     try clear ja
     try clear jb
     try clear ac7
     try clear ac8
     try clear ac9
     try clear ad2
     try clear p2
     try clear aq7
     try clear aq9
     try clear ar1
     try clear ar3
     try clear aq8
     try clear ar0
     try clear ar2
     try clear ar4
     obtain ⟨cm, nq, f5, wo, bj1, rfl, HA, HK2, l8, g9, en, fv, gw, HB⟩ := hrel
     cases gk with
     | zero => exact absurd HA.out (by simp [spec_l3Struck.l1])
     | succ k2 =>
      have H := HA.out
      clear HA
      simp only [spec_l3Struck.l1] at H
      by_cases es : cm < (l1.length : Int)
      ·rw [if_pos es] at H
       have ah3 := decide_eq_true es
       clear es
       obtain ⟨h8, H⟩ := pos_ H
       have ah4 := decide_eq_true h8
       clear h8
       by_cases ly : (l1.length : Int) = 0
       ·rw [if_pos ly] at H
        exact absurd H (by simp)
       ·rw [if_neg ly] at H
        have bz3 : ((l1.length : Int) == 0) = false := beq_eq_false_iff_ne.mpr ly
        have eq8 : ((l1.length : Int) != 0) = true := bne_iff_ne.mpr ly
        have eq9 : ¬ (l1 = []) := fun h_ => ly (by rw [h_]; rfl)
        obtain ⟨ji30, hji30⟩ : ∃ j_ : Int, (Int.tmod (wrap64 (cm + 1)) (l1.length : Int)) = j_ := ⟨_, rfl⟩
        replace H : (if 0 ≤ (ji30) then (if (ji30) < (l1.length : Int) then (if 0 ≤ (rd l1 cm) then (if (rd l1 cm) < (f5.length : Int) then (if (rd l1 cm) < (aa.length : Int) then (if 0 ≤ (rd l1 (ji30)) then (if (rd l1 (ji30)) < ((rd_L1 aa (rd l1 cm)).length : Int) then (if (rd l1 (ji30)) < ((rd_L1 f5 (rd l1 cm)).length : Int) then (spec_l3Struck.l1 k2 l1 d3 (wrap64 (cm + 1)) ab aa nq (f5.set ((rd l1 cm) : Int).toNat ((rd_L1 f5 (rd l1 cm)).set ((rd l1 (ji30)) : Int).toNat (wrap64 ((rd (rd_L1 aa (rd l1 cm)) (rd l1 (ji30))) - d3))))) else (none)) else (none)) else (none)) else (none)) else (none)) else (none)) else (none)) else (none)) = some (r1, r2) := by first | (rw [hji30] at H; exact H) | (simp only [hji30] at H ⊢; exact H)
        obtain ⟨j8, H⟩ := pos_ H
        have al8 := decide_eq_true j8
        clear j8
        obtain ⟨j9, H⟩ := pos_ H
        have ba7 := decide_eq_true j9
        clear j9
        obtain ⟨lv, H⟩ := pos_ H
        have ba8 := decide_eq_true lv
        clear lv
        obtain ⟨j4, H⟩ := pos_ H
        have aj2 := decide_eq_true j4
        clear j4
        obtain ⟨g2, H⟩ := pos_ H
        have yr := decide_eq_true g2
        clear g2
        obtain ⟨ic, H⟩ := pos_ H
        have al9 := decide_eq_true ic
        clear ic
        obtain ⟨wj, H⟩ := pos_ H
        have df4 := decide_eq_true wj
        clear wj
        obtain ⟨c38, H⟩ := pos_ H
        have df5 := decide_eq_true c38
        clear c38
        obtain ⟨bj2, hy416⟩ : ∃ y_ : List Int, y_ = ((rd_L1 f5 (rd l1 cm)).set ((rd l1 (ji30)) : Int).toNat (wrap64 ((rd (rd_L1 aa (rd l1 cm)) (rd l1 (ji30))) - d3))) := ⟨_, rfl⟩
        replace H : (spec_l3Struck.l1 k2 l1 d3 (wrap64 (cm + 1)) ab aa nq (f5.set ((rd l1 cm) : Int).toNat bj2)) = some (r1, r2) := by first | (rw [hy416]; with_reducible exact H) | (have H2_ := (Option.bind_some _ _).symm.trans H; rw [hy416]; with_reducible exact H2_) | (have H2_ := (Option.bind_some _ _).symm.trans H; with_reducible exact H2_) | with_reducible exact H | (rw [hy416]; exact H) | exact H
        have dl5 := Aside0.mk hy416
        clear hy416
        obtain ⟨ch0, hy418⟩ : ∃ y_ : List (List Int), y_ = (f5.set ((rd l1 cm) : Int).toNat bj2) := ⟨_, rfl⟩
        replace H : (spec_l3Struck.l1 k2 l1 d3 (wrap64 (cm + 1)) ab aa nq ch0) = some (r1, r2) := by first | (rw [hy418]; with_reducible exact H) | (have H2_ := (Option.bind_some _ _).symm.trans H; rw [hy418]; with_reducible exact H2_) | (have H2_ := (Option.bind_some _ _).symm.trans H; with_reducible exact H2_) | with_reducible exact H | (rw [hy418]; exact H) | exact H
        have dl6 := Aside0.mk hy418
        clear hy418
        have H' := Aside0.mk H
        clear H
        have bj3 : 0 ≤ (cm : Int) := of_decide_eq_true (g0_)
        have bj4 : cm < (l1.length : Int) := of_decide_eq_true (g0_)
        obtain ⟨dl7, dl8, ch1⟩ := Kd.at_int dc.out cm bj3 bj4
        cases dl8
        replace ch1 := cl_ HB ch1
        replace bj3 := eq_true bj3
        replace bj4 := eq_true bj4
        have bj5 : 0 ≤ ((ji30) : Int) := of_decide_eq_true (g0_)
        have bj6 : (ji30) < (l1.length : Int) := of_decide_eq_true (g0_)
        obtain ⟨dl9, dm0, ch2⟩ := Kd.at_int dc.out (ji30) bj5 bj6
        obtain rfl : dl7 = dl9 := (by injection dm0)
        replace ch2 := cl_ HB ch2
        replace bj5 := eq_true bj5
        replace bj6 := eq_true bj6
        try go_wp2
        replace l8 := Aside0.mk (Kd.R_drew l8.out)
        replace g9 := Aside0.mk (Kd.S_drew g9.out)
        replace en := Aside0.mk (blk_drew en.out)
        replace fv := Aside0.mk (blk_drew fv.out)
        replace gw := Aside0.mk (blk_drew gw.out)
        replace HB := Aside0.mk (below_drew1 HB.out)
        obtain ⟨df9, ab8, ab9⟩ := Kd.S_slice g9.out
        (first | subst ab9 | (injection ab9 with f1_ f2_ f3_; have f4_ := f1_.symm; have f5_ := f3_.symm; clear f1_ f2_ f3_; subst f4_; subst f5_))
        have ar5 : 0 ≤ ((rd l1 cm) : Int) := of_decide_eq_true (g0_)
        have ar6 : (rd l1 cm) < (f5.length : Int) := of_decide_eq_true (g0_)
        obtain ⟨bj7, er0, dm1, dm2, ar7, ch3, ch4⟩ := at_L1 (Kd.S_reads' g9.out).2.2 (rd l1 cm) ar5 ar6
        cases dm2
        obtain ⟨ce413, hce413, hMe413, hcc413⟩ := Kd.S_get g9.out [] (rd l1 cm) ar5 (by first | exact ar6 | exact of_decide_eq_true (g0_) | (have e_ := (Kd.S_reads' g9.out).1; omega))
        obtain ⟨ve413_0, rfl, ge413_0⟩ := hMe413
        have hv413_0 := hcc413 0 _ rfl
        rw [Nat.add_zero, show ((Kd.slice 3 (Kd.int .i64))).sz = 1 from rfl, Nat.mul_one] at hv413_0
        replace hv413_0 := Option.some.inj (hv413_0.symm.trans ar7)
        rw [hv413_0] at ge413_0
        have ug := Aside0.mk (show Kd.R (Kd.int .i64) 3 _ _ _ _ (rd_L1 f5 (rd l1 cm)) from ge413_0)
        clear hv413_0 ge413_0
        have HX413_0 := Aside0.mk ar7
        clear hcc413 hce413
        have dm3 := Aside0.mk ch4
        have er1 := Aside0.mk ch3
        clear ch4 ch3
        replace ar5 := eq_true ar5
        replace ar6 := eq_true ar6
        have bj8 : 0 ≤ ((rd l1 cm) : Int) := of_decide_eq_true (g0_)
        have bj9 : (rd l1 cm) < (aa.length : Int) := of_decide_eq_true (g0_)
        obtain ⟨ch5, er2, dm4, dm5, ar8, ch6, ch7⟩ := at_L1 bb.out (rd l1 cm) bj8 bj9
        have dm6 := ar8
        cases dm5
        replace ar8 := cl_ HB ar8
        have ch8 := Aside0.mk ch7
        have er3 := Aside0.mk ch6
        clear ch7 ch6
        replace bj8 := eq_true bj8
        replace bj9 := eq_true bj9
        have bk0 : 0 ≤ ((rd l1 (ji30)) : Int) := of_decide_eq_true (g0_)
        have bk1 : (rd l1 (ji30)) < ((rd_L1 aa (rd l1 cm)).length : Int) := of_decide_eq_true (g0_)
        obtain ⟨ch9, dm7, ar9⟩ := Kd.at_int ch8.out (rd l1 (ji30)) bk0 bk1
        have dm8 := ar9
        cases dm7
        replace ar9 := cl_ HB ar9
        replace bk0 := eq_true bk0
        replace bk1 := eq_true bk1
        have t9 : 0 ≤ ((rd l1 (ji30)) : Int) := of_decide_eq_true (g0_)
        have ua : ((rd l1 (ji30)) : Int) < (((rd_L1 f5 (rd l1 cm)).length : Int) : Int) := of_decide_eq_true (g0_)
        obtain ⟨wk, ca3, t1, ac0, gl39, cl39, HG39⟩ := Kd.R_form ug.out (by omega)
        (first | cases t1 | (injection t1 with ea_ en_ ec_; (first | subst ea_ | (injection ea_ with ea_; subst ea_)); subst ec_; clear en_))
        have GB39 := Aside0.mk ac0
        have GG39 := Aside0.mk HG39
        clear ac0 gl39 HG39
        obtain ⟨bg9, hf39_0⟩ := Kd.R_celln 0 ug.out ((rd l1 (ji30)) : Int) t9 ua
        replace t9 := eq_true t9
        replace ua := eq_true ua
        have hq42 : ((rd l1 cm) : Int) < (f5.length : Int) := (by have h_ : ((rd l1 cm) : Int) < ((f5.length : Int) : Int) := of_decide_eq_true (g0_); first | exact h_ | (have e_ := (Kd.S_reads' g9.out).1; omega) | simpa only [List.length_set, List.length_set] using h_)
        obtain ⟨oki42, ce42, hcl42, hM42, hcc42, hok42, hbk42⟩ := Kd.S_borrow g9.out [] ((rd l1 cm) : Int) (of_decide_eq_true (g0_)) (by first | exact hq42 | exact of_decide_eq_true (g0_) | (have e_ := (Kd.S_reads' g9.out).1; omega))
        obtain ⟨ve42_0, rfl, ge42_0⟩ := hM42
        have hv42 := hcc42 0 _ rfl
        rw [Nat.add_zero, show ((Kd.slice 3 (Kd.int .i64))).sz = 1 from rfl, Nat.mul_one] at hv42
        replace hv42 := Option.some.inj (hv42.symm.trans HX413_0.out)
        subst hv42
        clear hcc42 hcl42
        replace ge42_0 := (show Kd.R (Kd.int .i64) 3 _ _ _ _ (rd_L1 f5 (rd l1 cm)) from ge42_0)
        have HP42 := Kd.R_putg ge42_0 ((rd l1 (ji30)) : Int) (wrap64 ((rd (rd_L1 aa (rd l1 cm)) (rd l1 (ji30))) - d3))
        rw [← dl5.out] at HP42
        have HS42 := hbk42 HP42.2 (fun k_ e_ => by injection e_ with e_; subst e_; exact ge42_0.1 _ rfl) (x' := bj2) (Kd.M_row HP42.1)
        rw [← dl6.out] at HS42
        have HQ42 := Aside0.mk HS42
        clear HP42 HS42 hbk42 hok42
        refine start_ (n := 18) (S := fun w' => w'.cell? ⟨kj, 0, none⟩ = some (wo) ∧ w'.cell? ⟨kj, 1, none⟩ = some (.slice (some bj7) f5.length ab8) ∧ w'.cell? ⟨i5, 0, none⟩ = some (.slice ae ab.length ac) ∧ w'.cell? ⟨i5, 1, none⟩ = some (.slice (some ch5) aa.length af) ∧ w'.cell? (bj7.add ((rd l1 cm)).toNat) = some (.slice (some ⟨wk, 0, none⟩) (rd_L1 f5 (rd l1 cm)).length dm1) ∧ w'.cell? (ch5.add ((rd l1 cm)).toNat) = some (.slice (some ch9) (rd_L1 aa (rd l1 cm)).length dm4) ∧ w'.cell? (ch9.add ((rd l1 (ji30))).toNat) = some (.int .i64 (rd (rd_L1 aa (rd l1 cm)) (rd l1 (ji30))))) (ds := [17]) (tl_ 18 0) (g1_) rfl (g1_) ⟨(blk_cell gw.out 0).trans rfl, (blk_cell gw.out 1).trans rfl, (blk_cell en.out 0).trans rfl, (blk_cell en.out 1).trans rfl, ar7, ((cl_ HB dm6).trans rfl), ((cl_ HB dm8).trans rfl)⟩ (fun hHeld => ?_); refine with_tabW spec_l3Struck.tab12 spec_l3Struck.bits12 (fun HT_ HW_ => ?_)
        generalize wr.drew = w40 at l8 g9 en fv gw HB GG39 ug HQ42 dm3 ch8 HX413_0 hf39_0 bg9 ar7 ar8 ar9 hHeld ⊢
        refine pw_ 0 57 (tl_ 18 1) rfl rfl ?_
        refine pw_ 2 59 (tl_ 18 5) rfl rfl ?_
        refine pw_ 5 62 (tl_ 18 37) rfl rfl ?_
        refine pw_ 6 63 (tl_ 18 101) rfl rfl ?_
        refine pw_ 8 65 (tl_ 18 357) rfl rfl ?_
        refine pw_ 11 68 (tl_ 18 2405) rfl rfl ?_
        refine pw_ 14 71 (tl_ 18 18789) rfl rfl ?_
        refine tk5_ 1 58 (tl_ 18 18791) rfl rfl hHeld ?_
        refine pw_ 3 60 (tl_ 18 18799) rfl rfl ?_
        refine tk5_ 4 61 (tl_ 18 18815) rfl rfl hHeld ?_
        refine tk5_ 7 64 (tl_ 18 18943) rfl rfl hHeld ?_
        refine pw_ 9 66 (tl_ 18 19455) rfl rfl ?_
        refine tk5_ 10 67 (tl_ 18 20479) rfl rfl hHeld ?_
        refine pw_ 12 69 (tl_ 18 24575) rfl rfl ?_
        refine tk5_ 13 70 (tl_ 18 32767) rfl rfl hHeld ?_
        refine pw_ 15 72 (tl_ 18 65535) rfl rfl ?_
        refine pw_ 16 73 (tl_ 18 131071) rfl rfl ?_
        refine last_ (i := 17) (N := none) (tl_ 18 262143) rfl rfl (one_of HT_.out (g1_)) (by decide) (fun K hK => ?_)
        refine skip_ (w1 := ?_) (by rfl) rfl ?_ ?_
        rotate_left
        ·go_simp
         rfl
        refine hK.out _ _ ?_
        clear hK K
        refine done_ (done_of HT_.out (g1_)) ?_
        try go_wp2
        go_roundg k2
        case measure => have := HK1.out; have := HK2.out; omega
        case rel => exact ⟨(wrap64 (cm + 1)), (nq), (ch0), (wo), (.slice (some bj7) f5.length ab8), (g2_), H', ⟨g10_⟩, ⟨by (with_reducible repeat (first | apply Kd.R_alloc | apply Kd.R_drewN | apply Kd.R_drew)); exact Kd.R_mono (Kd.R_far (p := ⟨wk, ((rd l1 (ji30)) : Int).toNat, none⟩) (Kd.R_far1 l8.out rfl ((ug.out.1 _ rfl).1)) (fun _ hk => hk.2) (.int .i64 (wrap64 ((rd (rd_L1 aa (rd l1 cm)) (rd l1 (ji30))) - d3)))) (fun _ hk => trivial)⟩, ⟨uf3_ HQ42⟩, ⟨by (with_reducible repeat (first | refine blk_drewN ?_ _ | refine blk_drew ?_ | refine blk_alloc ?_ _)); refine blk_far ?_ (by have h_ := Kd.R_ne ug.out en.out (by decide); intro e_; exact h_ (g6_)) _; exact uf0_ en⟩, ⟨by (with_reducible repeat (first | refine blk_drewN ?_ _ | refine blk_drew ?_ | refine blk_alloc ?_ _)); refine blk_far ?_ (by have h_ := Kd.R_ne ug.out fv.out (by decide); intro e_; exact h_ (g6_)) _; exact uf0_ fv⟩, ⟨by (with_reducible repeat (first | refine blk_drewN ?_ _ | refine blk_drew ?_ | refine blk_alloc ?_ _)); refine blk_far ?_ (by have h_ := Kd.R_ne ug.out gw.out (by decide); intro e_; exact h_ (g6_)) _; exact uf0_ gw⟩, ⟨mb⟩⟩
      ·rw [if_neg es] at H
       have ah3 := decide_eq_false es
       clear es
       simp only [Option.some.injEq, Prod.mk.injEq] at H
       obtain ⟨rfl, rfl⟩ := H
       have cd7 := cg3.out
       have cd8 := aq5.out
       have dg6 := cg4.out
       have dg7 := aq6.out
       obtain ⟨dg8, dg9, dh0, dh1⟩ := blk2_ gw
       obtain ⟨p8, p9, bh0⟩ := Kd.R_slice l8.out
       subst bh0
       have dh2 := cg2.out
       have dh3 := cg1.out
       obtain ⟨dh4, dh5, dh6, dh7⟩ := blk2_ fv
       obtain ⟨ub, uc, bh1⟩ := Kd.S_slice g9.out
       subst bh1
       go_wp2
       refine bodyPost_ret (results_cell_row rfl _ _ jq 25 #[.slice p8 nq.length p9, .slice ub f5.length uc] (0, 0) _ rfl (by (with_reducible repeat (first | refine blk_drewN ?_ _ | refine blk_drew ?_ | refine blk_alloc ?_ _)); refine blk_put (cs := #[.slice p8 nq.length p9, .slice none 0 0]) ?_ 1 _ rfl; refine blk_put (cs := #[.slice none 0 0, .slice none 0 0]) ?_ 0 _ rfl; exact uf0_ fv) Try.underlying25 rfl (g1_)) rfl ?_
       exact ⟨_, _, g4_, by (with_reducible repeat (first | apply Kd.R_alloc | apply Kd.R_drewN | apply Kd.R_drew)); exact Kd.R_mono (Kd.R_far (p := ⟨jq, 1, none⟩) (Kd.R_far (p := ⟨jq, 0, none⟩) (Kd.R_types l8.out fv.out (by decide)) (fun _ hk => hk.2) (.slice p8 nq.length p9)) (fun _ hk => hk.2) (.slice ub f5.length uc)) (fun _ hk => trivial), by (with_reducible repeat (first | apply Kd.S_alloc | apply Kd.S_drewN | apply Kd.S_drew)); exact Kd.S_mono (Kd.S_far (p := ⟨jq, 1, none⟩) (Kd.S_far (p := ⟨jq, 0, none⟩) (Kd.S_types g9.out fv.out (by decide)) (fun _ hk => hk.2) (.slice p8 nq.length p9)) (fun _ hk => hk.2) (.slice ub f5.length uc)) (fun _ hk => hk.1), mb⟩
def spec_StruckOut.f (k : Nat) (ab : List Int) (aa : List (List Int)) (a1 : Int) : Option (List Int × (List (List Int)) × Bool) := (spec_CirclesOf.f k ab aa).bind fun fp => ((spec_l1In.f a1 0 (wrap64 ((fp.length : Int) - 1))).bind fun ad3 => (if ad3 = true then (if 0 ≤ a1 then (if a1 < (fp.length : Int) then ((spec_l3Struck.f k ab aa (rd_L1 fp a1)).bind fun bt426 => (some (bt426.1, bt426.2, true))) else (none)) else (none)) else (some (([] : List Int), ([] : List (List Int)), false))))
theorem spec_StruckOut.mq {p : Prop} (h : p := by
 repeat' first
 | (with_reducible exact spec_CirclesOf.mono _ _ _)
 | (with_reducible exact spec_l3Struck.mono _ _ _ _)
 | (with_reducible exact LeO.refl _)
 | (with_reducible exact LeO.none _)
 | (with_reducible refine LeO.ite ?_ ?_)
 | (with_reducible refine LeO.bind ?_ (fun _ => ?_))
 | exact spec_CirclesOf.mono _ _ _
 | exact spec_l3Struck.mono _ _ _ _
 | exact LeO.none _
 | refine LeO.ite ?_ ?_
 | refine LeO.bind ?_ (fun _ => ?_)) : p := h
theorem spec_StruckOut.mono : ∀ a0 a1 a2 k, LeO (spec_StruckOut.f k a0 a1 a2) (spec_StruckOut.f (k + 1) a0 a1 a2) := by
 intro a0 a1 a2 k
 unfold spec_StruckOut.f
 exact spec_StruckOut.mq
def spec_StruckOut.T4 : Bool × List (List Nat × List Nat) := (true, [([], []), ([], []), ([], []), ([1, 2], [1, 2]), ([3], [3]), ([0, 4], [0, 4]), ([5, 5, 0, 1, 2, 3, 4, 5], [5]), ([6, 0, 1, 2, 3, 4, 5, 6], [])])
def spec_StruckOut.B4 : List Nat := [0, 0, 0, 6, 14, 31, 63, 127]
theorem spec_StruckOut.tab4 : rtab .any (opsOf Try.f49 4) = spec_StruckOut.T4 := by kernel_rfl
theorem spec_StruckOut.bits4 : waitsOk spec_StruckOut.T4.2 spec_StruckOut.B4 = true := by kernel_rfl
theorem gn {p : Prop} (h : p := by repeat (first | (with_reducible first | exact HB.out | apply below_alloc | apply pw_below_drewN | apply below_drew1 | refine below_set ?_ ci0.out | refine below_set ?_ ci1.out) | exact HB.out)) : p := h
set_option maxHeartbeats 8000000 in
set_option maxRecDepth 100000 in
theorem spec_StruckOut.calls (k : Nat) (ae : Option Addr) (ac : Nat) (ab : List Int) (ag : Option Addr) (af : Nat) (aa : List (List Int)) (a1 : Int) (r1 : List Int) (r2 : List (List Int)) (r3 : Bool) (w : World) (bo : Kd.C (Kd.int .i64) w ae ab.length ab) (bs : ab.length ≤ ac) (bp : Kd.C (Kd.slice 3 (Kd.int .i64)) w ag aa.length aa) (bt : aa.length ≤ af) (h : spec_StruckOut.f k ab aa a1 = some (r1, r2, r3)) :
  Calls Try.prog 49 #[.agg #[.slice ae ab.length ac, .slice ag aa.length af], .int .i64 a1] w fun e w' => ∃ v0_ v1_ : Value, e = .returned (.tuple #[.agg #[v0_, v1_], .bool r3]) ∧ Kd.R (Kd.int .i64) 3 w' w.heap.size (fun k_ => (w.heap.size ≤ k_)) v0_ r1 ∧ Kd.N (Kd.slice 3 (Kd.int .i64)) 22 w' w.heap.size (fun k_ => (w.heap.size ≤ k_) ∧ some k_ ≠ (v0_ : Value).ownBlock) v1_ r2 ∧ Below w.heap.size w w' := by
 have hu25 := Try.underlying25
 have bg := Aside0.mk bo
 have bx := Aside0.mk bs
 clear bo bs
 have bb := Aside0.mk bp
 have b2 := Aside0.mk bt
 clear bp bt
 have HB := Aside0.mk (Below.refl w.heap.size w)
 have H : ((spec_CirclesOf.f k ab aa).bind fun fp => ((spec_l1In.f a1 0 (wrap64 ((fp.length : Int) - 1))).bind fun ad3 => (if ad3 = true then (if 0 ≤ a1 then (if a1 < (fp.length : Int) then ((spec_l3Struck.f k ab aa (rd_L1 fp a1)).bind fun bt426 => (some (bt426.1, bt426.2, true))) else (none)) else (none)) else (some (([] : List Int), ([] : List (List Int)), false))))) = some (r1, r2, r3) := h
 clear h
 obtain ⟨fp, A3, H⟩ := bind_ H
 obtain ⟨ad3, A4, H⟩ := bind_ H
 by_cases c5 : ad3 = true
 ·subst c5
  replace H := ifp_ H
  obtain ⟨c6, H⟩ := pos_ H
  have fj := decide_eq_true c6
  clear c6
  obtain ⟨c7, H⟩ := pos_ H
  have xq := decide_eq_true c7
  clear c7
  replace H := Option.bind_eq_some_iff.mp H
  obtain ⟨⟨ad4, as0⟩, A80, H⟩ := H
  try dsimp only at H
  have A8 := Aside0.mk A80
  clear A80
  simp only [Option.some.injEq, Prod.mk.injEq] at H
  obtain ⟨rfl, rfl, rfl⟩ := H
  go_enter Try.func49, Try.ntmps49
  try go_wp2_with (first | ((with_reducible refine gate_dst (N := 2) rfl ?_); refine bx_ (N := 2) #[.slice ae ab.length ac, .slice ag aa.length af] 25 ?_; intro ex hg w9 hbox hb; have dr := Aside0.mk (hbox); have dm9 := Aside0.mk ((g15_ : w.heap.size ≤ ex)); have ci0 := Aside0.mk ((g15_ : w.heap.size ≤ ex)); replace HB := Aside0.mk (below_step (gn) hb); clear hb hbox hg) | ((with_reducible refine gate_dst (N := 4) rfl ?_); refine bx_ (N := 4) #[.slice none 0 0, .slice none 0 0] 25 ?_; intro d1 hg lg hbox hb; have eg := Aside0.mk (hbox); have dn0 := Aside0.mk ((g15_ : w.heap.size ≤ d1)); have ci1 := Aside0.mk ((g15_ : w.heap.size ≤ d1)); replace HB := Aside0.mk (below_step (gn) hb); have qb := Aside0.mk ((by rw [hg]; exact Nat.ne_of_lt (blk_lt (g := ex) (o := .cells #[.slice ae ab.length ac, .slice ag aa.length af] 25 (0, 0)) (uf0_ dr)) : ex ≠ d1)); have ad5 := Aside0.mk ((by rw [hg]; exact Nat.ne_of_gt (blk_lt (g := ex) (o := .cells #[.slice ae ab.length ac, .slice ag aa.length af] 25 (0, 0)) (uf0_ dr)) : d1 ≠ ex)); replace dr := bb_ dr hb; clear hb hbox hg; have cc4 := qb.out; have cc5 := ad5.out; obtain ⟨bq5, bq6, dh8, bq7⟩ := blk2_ dr) | ((with_reducible refine gate_callee (f := 95) rfl ?_); refine goesL_ (some 8) rfl rfl Try.func95 k_ rfl #[.agg #[.slice ae ab.length ac, .slice ag aa.length af]] rfl (g3_) ?_; (with_reducible refine (spec_CirclesOf.calls k _ _ ab _ _ aa fp _ ?side1 ?side2 ?side3 ?side4 A3.out).mono ?_); (case side1 => exact uf2_ bg); (case side2 => exact bx.out); (case side3 => exact uf2_ bb); (case side4 => exact b2.out); rintro e kh ⟨dn1, rfl, aj, hb⟩; refine ⟨_, rfl, ?_⟩; have fq := Aside0.mk (Kd.N_lower (Kd.N_mono (ok' := fun k_ => (w.heap.size ≤ k_) ∧ k_ ≠ ex ∧ k_ ≠ d1) aj (fun k_ hk_ => ⟨(Nat.le_trans (below_size (gn)) hk_), (Kd.freshB (g := ex) (o := .cells #[.slice ae ab.length ac, .slice ag aa.length af] 25 (0, 0)) (uf0_ dr) k_ hk_), (Kd.freshB (g := d1) (o := .cells #[.slice none 0 0, .slice none 0 0] 25 (0, 0)) (uf0_ eg) k_ hk_)⟩)) (below_size (gn))); replace dr := bb_ dr hb; replace eg := bb_ eg hb; replace HB := Aside0.mk (below_step (gn) hb); (try clear hb); (try clear hk hi); (try clear aj); obtain ⟨bj, be, ny⟩ := Kd.N_slice fq.out; subst ny) | ((with_reducible refine gate_callee (f := 65) rfl ?_); refine goesL_ (some 13) rfl rfl Try.func65 k_ rfl #[.int .i64 a1, .int .i64 0, .int .i64 (wrap64 ((fp.length : Int) - 1))] rfl (g3_) ?_; (with_reducible refine (spec_l1In.calls a1 0 (wrap64 ((fp.length : Int) - 1)) true _ A4.out).mono ?_); rintro e w' ⟨rfl, ⟨nd, rfl⟩⟩; refine ⟨_, rfl, ?_⟩; (try (rw [drewN_self kh]; generalize hq_ : World.drewN kh _ = kh; replace fq : Aside0 (Kd.N (Kd.slice 3 (Kd.int .i64)) 22 kh w.heap.size (fun k_ => (w.heap.size ≤ k_) ∧ k_ ≠ ex ∧ k_ ≠ d1) (.slice bj fp.length be) fp) := ⟨by rw [← hq_]; exact (uf4_ fq)⟩; replace dr : Aside0 (kh.heap[ex]? = some (.cells #[.slice ae ab.length ac, .slice ag aa.length af] 25 (0, 0))) := ⟨by rw [← hq_]; exact (uf0_ dr)⟩; replace eg : Aside0 (kh.heap[d1]? = some (.cells #[.slice none 0 0, .slice none 0 0] 25 (0, 0))) := ⟨by rw [← hq_]; exact (uf0_ eg)⟩; replace HB : Aside0 (Below w.heap.size w kh) := ⟨by rw [← hq_]; exact (gn)⟩; clear hq_)); (try have hcq1 : kh.cell? ⟨ex, 0, none⟩ = some (.slice ae ab.length ac) := (blk_cell dr.out 0).trans rfl); (try have hfq1 := blk_frozen dr.out 0); (try have hcq2 : kh.cell? ⟨ex, 1, none⟩ = some (.slice ag aa.length af) := (blk_cell dr.out 1).trans rfl); (try have hfq2 := blk_frozen dr.out 1); (try have hcq3 : kh.cell? ⟨d1, 0, none⟩ = some (.slice none 0 0) := (blk_cell eg.out 0).trans rfl); (try have hfq3 := blk_frozen eg.out 0); (try have hcq4 : kh.cell? ⟨d1, 1, none⟩ = some (.slice none 0 0) := (blk_cell eg.out 1).trans rfl); (try have hfq4 := blk_frozen eg.out 1)))
  replace fq := Aside0.mk (Kd.N_drew fq.out)
  replace dr := Aside0.mk (blk_drew dr.out)
  replace eg := Aside0.mk (blk_drew eg.out)
  replace HB := Aside0.mk (below_drew1 HB.out)
  have as1 : 0 ≤ (a1 : Int) := of_decide_eq_true (g0_)
  have as2 : a1 < (fp.length : Int) := of_decide_eq_true (g0_)
  obtain ⟨ci2, ci3, ci4, dn2, bk2, ci5, ci6⟩ := at_L1 (Kd.N_reads' fq.out).2.2 a1 as1 as2
  cases dn2
  obtain ⟨ce425, hce425, hMe425, hcc425⟩ := Kd.N_get fq.out [] a1 as1 (by first | exact as2 | exact of_decide_eq_true (g0_) | (have e_ := (Kd.N_reads' fq.out).1; omega))
  obtain ⟨ua425_0, uc425_0, rfl, ul425_0, ge425_0⟩ := Kd.FK_slice_open hMe425
  have hv425_0 := hcc425 0 _ rfl
  rw [Nat.add_zero, show ((Kd.slice 3 (Kd.int .i64))).sz = 1 from rfl, Nat.mul_one] at hv425_0
  replace hv425_0 := Option.some.inj (hv425_0.symm.trans bk2)
  injection hv425_0 with hva_ hvn_ hvc_
  rw [hva_] at ge425_0
  rw [hvc_] at ul425_0
  have bk3 := Aside0.mk (show Kd.V (Kd.int .i64) 3 _ w.heap.size _ _ (rd_L1 fp a1) from Kd.V_mk ul425_0 ge425_0)
  clear hva_ hvn_ hvc_ ge425_0 ul425_0
  clear hcc425 hce425
  have wq := Aside0.mk ci6
  have dn3 := Aside0.mk ci5
  clear ci6 ci5
  replace as1 := eq_true as1
  replace as2 := eq_true as2
  refine start_ (n := 8) (S := fun w' => w'.cell? ⟨ex, 0, none⟩ = some (.slice ae ab.length ac) ∧ w'.cell? ⟨ex, 1, none⟩ = some (.slice ag aa.length af) ∧ w'.cell? (ci2.add (a1).toNat) = some (.slice ci3 (rd_L1 fp a1).length ci4)) (ds := []) (tl_ 8 0) (g1_) rfl (g1_) ⟨(blk_cell dr.out 0).trans rfl, (blk_cell dr.out 1).trans rfl, bk2⟩ (fun hHeld => ?_); refine with_tabW spec_StruckOut.tab4 spec_StruckOut.bits4 (fun HT_ HW_ => ?_)
  generalize kh.drew = w15 at fq dr eg HB bk3 wq bk2 hHeld ⊢
  refine pw_ 1 17 (tl_ 8 2) rfl rfl ?_
  refine pw_ 2 18 (tl_ 8 6) rfl rfl ?_
  refine pw_ 3 19 (tl_ 8 14) rfl rfl ?_
  refine tk1_ 0 16 (tl_ 8 15) rfl rfl hHeld ?_
  refine tk1_ 4 20 (tl_ 8 31) rfl rfl hHeld ?_
  refine one_ (i := 5) (N := some 21) (tl_ 8 63) rfl rfl (one_of HT_.out (g1_)) (by decide) (fun K hK => ?_)
  refine goes_ Try.func98 (g1_) rfl #[.agg #[.slice ae ab.length ac, .slice ag aa.length af], .slice ci3 (rd_L1 fp a1).length ci4] (by rfl) rfl rfl (g3_) ?_
  with_reducible refine (spec_l3Struck.calls k _ _ ab _ _ aa _ _ (rd_L1 fp a1) ad4 as0 _ ?side1 ?side2 ?side3 ?side4 ?side5 ?side6 A8.out).mono ?_
  (case side1 => exact uf2_ bg)
  (case side2 => exact bx.out)
  (case side3 => exact uf2_ bb)
  (case side4 => exact b2.out)
  (case side5 => repeat (first | exact (by repeat (first | (with_reducible exact wq.out) | (with_reducible refine Kd.C_alloc ?_ _) | (with_reducible refine Kd.C_drewN ?_ _) | (with_reducible refine Kd.C_drew ?_) | exact wq.out)) | (with_reducible refine Kd.C_alloc ?_ _) | (with_reducible refine Kd.C_drewN ?_ _) | (with_reducible refine Kd.C_drew ?_)))
  (case side6 => exact dn3.out)
  rintro e qm ⟨dn4, er4, rfl, aj, em, hb⟩
  have HS2_ := (hb.cell (World.block_lt_of_cell? _ _ (hHeld.2.2))).trans (hHeld.2.2)
  refine ⟨_, rfl, ?_⟩
  replace bk3 := Aside0.mk (Kd.V_mono (Kd.V_told (Kd.V_told (Kd.V_old (uf5_ bk3) hb) (Kd.R_base aj)) (Kd.N_base (g41_))) (fun _ h_ => h_.1))
  have ci7 := Aside0.mk (Kd.R_lower (Kd.R_newM (M := fun k_ => (w.heap.size ≤ k_)) aj (below_size (gn)) (fun k_ h_ => h_)) (below_size (gn)))
  have ci8 := Aside0.mk (Kd.N_lower (Kd.N_mono (ok' := fun k_ => (w.heap.size ≤ k_) ∧ some k_ ≠ (dn4 : Value).ownBlock ∧ some k_ ≠ (.slice (some ci2) fp.length be : Value).ownBlock ∧ k_ ≠ ex ∧ k_ ≠ d1) (Kd.S_N (Kd.S_bound em)) (fun k_ hk_ => ⟨(Nat.le_trans (below_size (gn)) hk_.2.1), hk_.1, (Kd.fresh' (Kd.N_lt (uf4_ fq)) k_ hk_.2.1), (Kd.freshB (g := ex) (o := .cells #[.slice ae ab.length ac, .slice ag aa.length af] 25 (0, 0)) (uf0_ dr) k_ hk_.2.1), (Kd.freshB (g := d1) (o := .cells #[.slice none 0 0, .slice none 0 0] 25 (0, 0)) (uf0_ eg) k_ hk_.2.1)⟩)) (below_size (gn)))
  replace fq := Aside0.mk (Kd.N_mono (Kd.N_told (Kd.N_told (Kd.N_old (uf4_ fq) hb) (Kd.R_base aj)) (Kd.N_base (g41_))) (fun _ h_ => h_.1))
  replace dr := bb_ dr hb
  replace eg := bb_ eg hb
  replace wq := Aside0.mk (Kd.C_below (by repeat (first | (with_reducible exact wq.out) | (with_reducible refine Kd.C_alloc ?_ _) | (with_reducible refine Kd.C_drewN ?_ _) | (with_reducible refine Kd.C_drew ?_) | exact wq.out)) hb)
  replace HB := Aside0.mk (below_step (gn) hb)
  (try clear hb)
  (try clear hk hi)
  (try clear aj)
  (try clear em)
  obtain ⟨cj, ca, o6⟩ := Kd.R_slice ci7.out
  (first | subst o6 | (injection o6 with f1_ f2_ f3_; have f4_ := f1_.symm; have f5_ := f3_.symm; clear f1_ f2_ f3_; subst f4_; subst f5_))
  obtain ⟨pp, pq, m0⟩ := Kd.N_slice ci8.out
  (first | subst m0 | (injection m0 with f1_ f2_ f3_; have f4_ := f1_.symm; have f5_ := f3_.symm; clear f1_ f2_ f3_; subst f4_; subst f5_))
  refine hK.out _ _ ⟨(blk_cell dr.out 0).trans rfl, (blk_cell dr.out 1).trans rfl, HS2_⟩ (fun hHeld => ?_)
  clear hK K
  refine nm_ ?_
  refine one_ (i := 6) (N := none) (tl_ 8 127) rfl rfl (one_of HT_.out (g1_)) (by decide) (fun K hK => ?_)
  have er5 : qm.cell? ⟨d1, 0, none⟩ = some (.slice none 0 0) := (blk_cell eg.out 0).trans rfl
  have er6 := blk_frozen eg.out 0
  have er7 := qb.out
  have er8 := ad5.out
  have er9 : qm.cell? ⟨d1, 1, none⟩ = some (.slice none 0 0) := (blk_cell eg.out 1).trans rfl
  have es0 := blk_frozen eg.out 1
  have es1 := qb.out
  have es2 := ad5.out
  refine skip_ (w1 := ?_) (by rfl) rfl ?_ ?_
  rotate_left
  ·go_simp
   rfl
  refine hK.out _ _ ⟨(cf_ qb ((cf_ qb (hHeld.1)))), (cf_ qb ((cf_ qb (hHeld.2.1)))), ((cell_far (p := ⟨d1, _, none⟩) (by first | exact Kd.own_blk (Kd.N_away fq.out (fun _ hk => hk.1.1.2.2)) | (rw [add_block]; exact Kd.own_blk (Kd.N_away fq.out (fun _ hk => hk.1.1.2.2))) | (show (Addr.add _ _).block ≠ _; rw [add_block]; exact Kd.own_blk (Kd.N_away fq.out (fun _ hk => hk.1.1.2.2))) | (dsimp only; exact Kd.own_blk (Kd.N_away fq.out (fun _ hk => hk.1.1.2.2)))) _).trans (((cell_far (p := ⟨d1, _, none⟩) (by first | exact Kd.own_blk (Kd.N_away fq.out (fun _ hk => hk.1.1.2.2)) | (rw [add_block]; exact Kd.own_blk (Kd.N_away fq.out (fun _ hk => hk.1.1.2.2))) | (show (Addr.add _ _).block ≠ _; rw [add_block]; exact Kd.own_blk (Kd.N_away fq.out (fun _ hk => hk.1.1.2.2))) | (dsimp only; exact Kd.own_blk (Kd.N_away fq.out (fun _ hk => hk.1.1.2.2)))) _).trans (hHeld.2.2))))⟩ (fun hHeld => ?_)
  clear hK K
  refine pw_ 7 5 (tl_ 8 255) rfl rfl ?_
  refine done_ (done_of HT_.out (g1_)) ?_
  try go_wp2
  refine bodyPost_ret (results_ct rfl _ _ d1 25 #[.slice cj ad4.length ca, .slice pp as0.length pq] (0, 0) _ rfl (by (with_reducible repeat (first | refine blk_drewN ?_ _ | refine blk_drew ?_ | refine blk_alloc ?_ _)); refine blk_put (cs := #[.slice cj ad4.length ca, .slice none 0 0]) ?_ 1 _ rfl; refine blk_put (cs := #[.slice none 0 0, .slice none 0 0]) ?_ 0 _ rfl; exact uf0_ eg) Try.underlying25 rfl (g1_)) rfl ?_
  exact ⟨_, _, g4_, by (with_reducible repeat (first | apply Kd.R_alloc | apply Kd.R_drewN | apply Kd.R_drew)); exact Kd.R_mono (Kd.R_far (p := ⟨d1, 1, none⟩) (Kd.R_far (p := ⟨d1, 0, none⟩) (Kd.R_types ci7.out eg.out (by decide)) (fun _ hk => hk.2) (.slice cj ad4.length ca)) (fun _ hk => hk.2) (.slice pp as0.length pq)) (fun _ hk => hk.1.1), by (with_reducible repeat (first | apply Kd.N_alloc | apply Kd.N_drewN | apply Kd.N_drew)); exact Kd.N_mono (Kd.N_far (p := ⟨d1, 1, none⟩) (Kd.N_far (p := ⟨d1, 0, none⟩) (Kd.N_mono ci8.out (fun k_ hk => (⟨hk, hk.2.2.2.2⟩ : _ ∧ k_ ≠ d1))) (fun _ hk => hk.2) (.slice cj ad4.length ca)) (fun _ hk => hk.2) (.slice pp as0.length pq)) (fun _ hk => ⟨hk.1.1, hk.1.2.1⟩), gn⟩
 ·replace c5 := Bool.eq_false_iff.mpr c5
  subst c5
  replace H := ifn_ H
  simp only [Option.some.injEq, Prod.mk.injEq] at H
  obtain ⟨rfl, rfl, rfl⟩ := H
  go_enter Try.func49, Try.ntmps49
  go_wp2_with (first | ((with_reducible refine gate_dst (N := 2) rfl ?_); refine bx_ (N := 2) #[.slice ae ab.length ac, .slice ag aa.length af] 25 ?_; intro ex hg tx hbox hb; have dr := Aside0.mk (hbox); have dm9 := Aside0.mk ((g15_ : w.heap.size ≤ ex)); have ci0 := Aside0.mk ((g15_ : w.heap.size ≤ ex)); replace HB := Aside0.mk (below_step (gn) hb); clear hb hbox hg) | ((with_reducible refine gate_dst (N := 4) rfl ?_); refine bx_ (N := 4) #[.slice none 0 0, .slice none 0 0] 25 ?_; intro d1 hg zo hbox hb; have eg := Aside0.mk (hbox); have dn0 := Aside0.mk ((g15_ : w.heap.size ≤ d1)); have ci1 := Aside0.mk ((g15_ : w.heap.size ≤ d1)); replace HB := Aside0.mk (below_step (gn) hb); have qb := Aside0.mk ((by rw [hg]; exact Nat.ne_of_lt (blk_lt (g := ex) (o := .cells #[.slice ae ab.length ac, .slice ag aa.length af] 25 (0, 0)) (uf0_ dr)) : ex ≠ d1)); have ad5 := Aside0.mk ((by rw [hg]; exact Nat.ne_of_gt (blk_lt (g := ex) (o := .cells #[.slice ae ab.length ac, .slice ag aa.length af] 25 (0, 0)) (uf0_ dr)) : d1 ≠ ex)); replace dr := bb_ dr hb; clear hb hbox hg; have dn5 := qb.out; have dn6 := ad5.out; obtain ⟨bh4, bh5, bh6, bh7⟩ := blk2_ dr) | ((with_reducible refine gate_callee (f := 95) rfl ?_); refine goesL_ (some 8) rfl rfl Try.func95 k_ rfl #[.agg #[.slice ae ab.length ac, .slice ag aa.length af]] rfl (g3_) ?_; (with_reducible refine (spec_CirclesOf.calls k _ _ ab _ _ aa fp _ ?side1 ?side2 ?side3 ?side4 A3.out).mono ?_); (case side1 => exact uf2_ bg); (case side2 => exact bx.out); (case side3 => exact uf2_ bb); (case side4 => exact b2.out); rintro e ms ⟨dn1, rfl, aj, hb⟩; refine ⟨_, rfl, ?_⟩; have fq := Aside0.mk (Kd.N_lower (Kd.N_mono (ok' := fun k_ => (w.heap.size ≤ k_) ∧ k_ ≠ ex ∧ k_ ≠ d1) aj (fun k_ hk_ => ⟨(Nat.le_trans (below_size (gn)) hk_), (Kd.freshB (g := ex) (o := .cells #[.slice ae ab.length ac, .slice ag aa.length af] 25 (0, 0)) (uf0_ dr) k_ hk_), (Kd.freshB (g := d1) (o := .cells #[.slice none 0 0, .slice none 0 0] 25 (0, 0)) (uf0_ eg) k_ hk_)⟩)) (below_size (gn))); replace dr := bb_ dr hb; replace eg := bb_ eg hb; replace HB := Aside0.mk (below_step (gn) hb); (try clear hb); (try clear hk hi); (try clear aj); obtain ⟨am8, am9, an0⟩ := Kd.N_slice fq.out; subst an0) | ((with_reducible refine gate_callee (f := 65) rfl ?_); refine goesL_ (some 13) rfl rfl Try.func65 k_ rfl #[.int .i64 a1, .int .i64 0, .int .i64 (wrap64 ((fp.length : Int) - 1))] rfl (g3_) ?_; (with_reducible refine (spec_l1In.calls a1 0 (wrap64 ((fp.length : Int) - 1)) false _ A4.out).mono ?_); rintro e w' ⟨rfl, ⟨nd, rfl⟩⟩; refine ⟨_, rfl, ?_⟩; (try (rw [drewN_self ms]; generalize hq_ : World.drewN ms _ = ms; replace fq : Aside0 (Kd.N (Kd.slice 3 (Kd.int .i64)) 22 ms w.heap.size (fun k_ => (w.heap.size ≤ k_) ∧ k_ ≠ ex ∧ k_ ≠ d1) (.slice am8 fp.length am9) fp) := ⟨by rw [← hq_]; exact (uf4_ fq)⟩; replace dr : Aside0 (ms.heap[ex]? = some (.cells #[.slice ae ab.length ac, .slice ag aa.length af] 25 (0, 0))) := ⟨by rw [← hq_]; exact (uf0_ dr)⟩; replace eg : Aside0 (ms.heap[d1]? = some (.cells #[.slice none 0 0, .slice none 0 0] 25 (0, 0))) := ⟨by rw [← hq_]; exact (uf0_ eg)⟩; replace HB : Aside0 (Below w.heap.size w ms) := ⟨by rw [← hq_]; exact (gn)⟩; clear hq_)); obtain ⟨es3, es4, es5, es6⟩ := blk2_ eg))
  refine bodyPost_ret (results_ct rfl _ _ d1 25 #[.slice none 0 0, .slice none 0 0] (0, 0) _ rfl (by (with_reducible repeat (first | refine blk_drewN ?_ _ | refine blk_drew ?_ | refine blk_alloc ?_ _)); refine blk_put (cs := #[.slice none 0 0, .slice none 0 0]) ?_ 1 _ rfl; refine blk_put (cs := #[.slice none 0 0, .slice none 0 0]) ?_ 0 _ rfl; exact uf0_ eg) Try.underlying25 rfl (g1_)) rfl ?_
  exact ⟨_, _, g4_, g17_, g13_, gn⟩
def impl_CirclesOf.f (k : Nat) (ab : List Int) (aa : List (List Int)) : Option ((List (List Int))) := (impl_isBook.f k ab aa).bind fun ad6 => (if ad6 = true then ((impl_circles.f k ab aa).bind fun ad7 => (some ad7)) else (some ([] : List (List Int))))
theorem impl_CirclesOf.mq {p : Prop} (h : p := by
 repeat' first
 | (with_reducible exact impl_circles.mono _ _ _)
 | (with_reducible exact impl_isBook.mono _ _ _)
 | (with_reducible exact LeO.refl _)
 | (with_reducible exact LeO.none _)
 | (with_reducible refine LeO.ite ?_ ?_)
 | (with_reducible refine LeO.bind ?_ (fun _ => ?_))
 | exact impl_circles.mono _ _ _
 | exact impl_isBook.mono _ _ _
 | exact LeO.none _
 | refine LeO.ite ?_ ?_
 | refine LeO.bind ?_ (fun _ => ?_)) : p := h
theorem impl_CirclesOf.mono : ∀ a0 a1 k, LeO (impl_CirclesOf.f k a0 a1) (impl_CirclesOf.f (k + 1) a0 a1) := by
 intro a0 a1 k
 unfold impl_CirclesOf.f
 exact impl_CirclesOf.mq
theorem oz {p : Prop} (h : p := by repeat (first | (with_reducible first | exact HB.out | apply below_alloc | apply pw_below_drewN | apply below_drew1 | refine below_set ?_ ci9.out) | exact HB.out)) : p := h
set_option maxHeartbeats 8000000 in
set_option maxRecDepth 100000 in
theorem impl_CirclesOf.calls (k : Nat) (ae : Option Addr) (ac : Nat) (ab : List Int) (ag : Option Addr) (af : Nat) (aa : List (List Int)) (r : List (List Int)) (w : World) (bo : Kd.C (Kd.int .i64) w ae ab.length ab) (bs : ab.length ≤ ac) (bp : Kd.C (Kd.slice 3 (Kd.int .i64)) w ag aa.length aa) (bt : aa.length ≤ af) (h : impl_CirclesOf.f k ab aa = some r) :
  Calls Try.prog 50 #[.agg #[.slice ae ab.length ac, .slice ag aa.length af]] w fun e w' => ∃ v0_ : Value, e = .returned (v0_) ∧ Kd.N (Kd.slice 3 (Kd.int .i64)) 22 w' w.heap.size (fun k_ => (w.heap.size ≤ k_)) v0_ r ∧ Below w.heap.size w w' := by
 have hu25 := Try.underlying25
 have bg := Aside0.mk bo
 have bx := Aside0.mk bs
 clear bo bs
 have bb := Aside0.mk bp
 have b2 := Aside0.mk bt
 clear bp bt
 have HB := Aside0.mk (Below.refl w.heap.size w)
 have H : ((impl_isBook.f k ab aa).bind fun ad6 => (if ad6 = true then ((impl_circles.f k ab aa).bind fun ad7 => (some ad7)) else (some ([] : List (List Int))))) = some r := h
 clear h
 obtain ⟨ad6, A2, H⟩ := bind_ H
 by_cases c3 : ad6 = true
 ·subst c3
  replace H := ifp_ H
  obtain ⟨ad7, A4, H⟩ := bind_ H
  obtain rfl := Option.some.inj H
  go_enter Try.func50, Try.ntmps50
  go_wp2_with (first | ((with_reducible refine gate_dst (N := 1) rfl ?_); refine bx_ (N := 1) #[.slice ae ab.length ac, .slice ag aa.length af] 25 ?_; intro uh hg w5 hbox hb; have nr := Aside0.mk (hbox); have dn7 := Aside0.mk ((g42_ : w.heap.size ≤ uh)); have ci9 := Aside0.mk ((g42_ : w.heap.size ≤ uh)); replace HB := Aside0.mk (below_step (oz) hb); clear hb hbox hg; obtain ⟨qj, qk, uy, ql⟩ := blk2_ nr) | ((with_reducible refine gate_callee (f := 73) rfl ?_); refine goesL_ (some 4) rfl rfl Try.func73 k_ rfl #[.agg #[.slice ae ab.length ac, .slice ag aa.length af]] rfl (g3_) ?_; (with_reducible refine (impl_isBook.calls k _ _ ab _ _ aa true _ ?side1 ?side2 ?side3 ?side4 A2.out).mono ?_); (case side1 => exact uf2_ bg); (case side2 => exact bx.out); (case side3 => exact uf2_ bb); (case side4 => exact b2.out); rintro e w7 ⟨rfl, hb⟩; refine ⟨_, rfl, ?_⟩; replace nr := bb_ nr hb; replace HB := Aside0.mk (below_step (oz) hb); (try clear hb); (try clear hk hi); obtain ⟨js, jt, ju, jv⟩ := blk2_ nr) | ((with_reducible refine gate_callee (f := 96) rfl ?_); refine goesL_ (some 7) rfl rfl Try.func96 k_ rfl #[.agg #[.slice ae ab.length ac, .slice ag aa.length af]] rfl (g3_) ?_; (with_reducible refine (impl_circles.calls k _ _ ab _ _ aa ad7 _ ?side1 ?side2 ?side3 ?side4 A4.out).mono ?_); (case side1 => exact uf2_ bg); (case side2 => exact bx.out); (case side3 => exact uf2_ bb); (case side4 => exact b2.out); rintro e w9 ⟨es7, rfl, aj, hb⟩; refine ⟨_, rfl, ?_⟩; have dn8 := Aside0.mk (Kd.N_lower (Kd.N_mono (ok' := fun k_ => (w.heap.size ≤ k_) ∧ k_ ≠ uh) aj (fun k_ hk_ => ⟨(Nat.le_trans (below_size (oz)) hk_), (Kd.freshB (g := uh) (o := .cells #[.slice ae ab.length ac, .slice ag aa.length af] 25 (0, 0)) (uf0_ nr) k_ hk_)⟩)) (below_size (oz))); replace nr := bb_ nr hb; replace HB := Aside0.mk (below_step (oz) hb); (try clear hb); (try clear hk hi); (try clear aj)))
  go_ret
  exact ⟨_, g4_, by (with_reducible repeat (first | apply Kd.N_alloc | apply Kd.N_drewN | apply Kd.N_drew)); exact Kd.N_mono dn8.out (fun _ hk => hk.1), oz⟩
 ·replace c3 := Bool.eq_false_iff.mpr c3
  subst c3
  replace H := ifn_ H
  obtain rfl := Option.some.inj H
  go_enter Try.func50, Try.ntmps50
  go_wp2_with (first | ((with_reducible refine gate_dst (N := 1) rfl ?_); refine bx_ (N := 1) #[.slice ae ab.length ac, .slice ag aa.length af] 25 ?_; intro uh hg lg hbox hb; have nr := Aside0.mk (hbox); have dn7 := Aside0.mk ((g42_ : w.heap.size ≤ uh)); have ci9 := Aside0.mk ((g42_ : w.heap.size ≤ uh)); replace HB := Aside0.mk (below_step (oz) hb); clear hb hbox hg; obtain ⟨rq, rr, rs, rt⟩ := blk2_ nr) | ((with_reducible refine gate_callee (f := 73) rfl ?_); refine goesL_ (some 4) rfl rfl Try.func73 k_ rfl #[.agg #[.slice ae ab.length ac, .slice ag aa.length af]] rfl (g3_) ?_; (with_reducible refine (impl_isBook.calls k _ _ ab _ _ aa false _ ?side1 ?side2 ?side3 ?side4 A2.out).mono ?_); (case side1 => exact uf2_ bg); (case side2 => exact bx.out); (case side3 => exact uf2_ bb); (case side4 => exact b2.out); rintro e qg ⟨rfl, hb⟩; refine ⟨_, rfl, ?_⟩; replace nr := bb_ nr hb; replace HB := Aside0.mk (below_step (oz) hb); (try clear hb); (try clear hk hi)))
  go_ret
  exact ⟨_, g4_, g13_, oz⟩
end Go.Proofs.Ytfooakkhkehpiaa.PU
