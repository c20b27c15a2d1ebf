/- FnLeadsTo: for every input the law holds. No condition. -/
import Derived.Test.YtigpmfoagkhaeaaZFnLeadsTo1
namespace Go.Proofs.Ytigpmfoagkhaeaa.PU
open Go.RowKit Go.Proofs.YtigpmfoagkhaeaaW.PrintWords Go.Proofs.YtigpmfoagkhaeaaW.PrintLast Go.Proofs.YtigpmfoagkhaeaaW.PrintMore Go.Proofs.Ytigpmfoagkhaeaa.Qd
attribute [local go_sem] max2_int min2_int max_two min_two max_three min_three max_four min_four
set_option linter.unusedVariables false
set_option linter.unusedSimpArgs false
attribute [local go_sem high] eqA36
def laws_samePays.l0 : Nat → List (S36) → List (S36) → Int → Option (Bool)
 | 0, _, _, _ => none
 | k + 1, x0, x1, x5 => if x5 < (x0.length : Int) then (if 0 ≤ x5 then (if x5 < (x1.length : Int) then (if (!(((rd_T36 x0 x5).f0) == ((rd_T36 x1 x5).f0)) || (!(((rd_T36 x0 x5).f1) == ((rd_T36 x1 x5).f1)))) = true then (some false) else (laws_samePays.l0 k x0 x1 (wrap64 (x5 + 1)))) else (none)) else (none)) else (some true)
def laws_samePays.f (k : Nat) (l0 : List (S36)) (l1 : List (S36)) : Option (Bool) := if (l0.length : Int) = (l1.length : Int) then (laws_samePays.l0 k l0 l1 0) else (some false)
theorem laws_samePays.mq {p : Prop} (h : p := by
 repeat' first
 | (with_reducible exact ih0 _ _ _)
 | (with_reducible exact LeO.refl _)
 | (with_reducible exact LeO.none _)
 | (with_reducible refine LeO.ite ?_ ?_)
 | (with_reducible refine LeO.bind ?_ (fun _ => ?_))
 | exact ih0 _ _ _
 | exact LeO.none _
 | refine LeO.ite ?_ ?_
 | refine LeO.bind ?_ (fun _ => ?_)) : p := h
theorem laws_samePays.mono_l : ∀ k, (∀ y0 y1 y2, LeO (laws_samePays.l0 k y0 y1 y2) (laws_samePays.l0 (k + 1) y0 y1 y2))
 | 0 => fun _ _ _ r h => by simp [laws_samePays.l0] at h
 | k + 1 => by
  have ih0 := laws_samePays.mono_l k
  ·intro y0 y1 y2
   unfold laws_samePays.l0
   exact laws_samePays.mq
theorem laws_samePays.mono : ∀ a0 a1 k, LeO (laws_samePays.f k a0 a1) (laws_samePays.f (k + 1) a0 a1) := by
 intro a0 a1 k
 have ih0 := laws_samePays.mono_l k
 unfold laws_samePays.f
 exact laws_samePays.mq
set_option maxHeartbeats 8000000 in
set_option maxRecDepth 100000 in
theorem laws_samePays.calls (k : Nat) (A0 : Option Addr) (c0 : Nat) (l0 : List (S36)) (A1 : Option Addr) (c1 : Nat) (l1 : List (S36)) (r : Bool) (w : World) (hr0 : Kd.C k36 w A0 l0.length l0) (hc0 : l0.length ≤ c0) (hr1 : Kd.C k36 w A1 l1.length l1) (hc1 : l1.length ≤ c1) (h : laws_samePays.f k l0 l1 = some r) :
  Calls Try.prog 14 #[.slice A0 l0.length c0, .slice A1 l1.length c1] w fun e w' => e = .returned (.bool r) ∧ Drawn0 w w' := by
 have hu36 := Try.underlying36
 have HR0 := Aside0.mk hr0
 have HC0 := Aside0.mk hc0
 clear hr0 hc0
 have HR1 := Aside0.mk hr1
 have HC1 := Aside0.mk hc1
 clear hr1 hc1
 have H : (if (l0.length : Int) = (l1.length : Int) then (laws_samePays.l0 k l0 l1 0) else (some false)) = some r := h
 clear h
 by_cases c3 : (l0.length : Int) = (l1.length : Int)
 ·rw [if_pos c3] at H
  have c3b0 : ((l0.length : Int) == (l1.length : Int)) = true := beq_iff_eq.mpr c3
  have c3b1 : ((l0.length : Int) != (l1.length : Int)) = false := bne_eq_false_iff_eq.mpr c3
  have c3b2 : (l0.length == l1.length) = true := by first | simpa using c3 | (simp at c3 ⊢; omega)
  clear c3
  have H' := Aside0.mk H
  clear H
  go_enter Try.func14, Try.ntmps14
  go_wp2
  repeat (go_quiet (fail); try go_wp2)
  go_loopg [5] k (fun kq v5 w' => ∃ (x5_1 : Int), v5 = .int .i64 x5_1 ∧ Aside0 (laws_samePays.l0 kq l0 l1 x5_1 = some r) ∧ Aside0 (kq ≤ k) ∧ Drawn0 w w')
  case atStart => exact ⟨(0), (g3_), H', ⟨Nat.le_refl _⟩, g5_⟩
  case round =>
   clear H'
   try clear c1
   try clear p2
   try clear c3
   try clear c3b0
   try clear c3b1
   try clear c3b2
   obtain ⟨x5_1, rfl, HA, HK1, ⟨m1, rfl⟩⟩ := hrel
   cases gk with
   | zero => exact absurd HA.out (by simp [laws_samePays.l0])
   | succ k1 =>
    have H := HA.out
    clear HA
    simp only [laws_samePays.l0] at H
    by_cases c4 : x5_1 < (l0.length : Int)
    ·rw [if_pos c4] at H
     have c4b0 := decide_eq_true c4
     clear c4
     obtain ⟨c5, H⟩ := pos_ H
     have c5b0 := decide_eq_true c5
     clear c5
     obtain ⟨c6, H⟩ := pos_ H
     have c6b0 := decide_eq_true c6
     clear c6
     by_cases c7 : (!(((rd_T36 l0 x5_1).f0) == ((rd_T36 l1 x5_1).f0)) || (!(((rd_T36 l0 x5_1).f1) == ((rd_T36 l1 x5_1).f1)))) = true
     ·rw [if_pos c7] at H
      have c7b0 : (!(((rd_T36 l0 x5_1).f0) == ((rd_T36 l1 x5_1).f0)) || (!(((rd_T36 l0 x5_1).f1) == ((rd_T36 l1 x5_1).f1)))) = true := c7
      clear c7
      obtain rfl := Option.some.inj H
      have p191 : 0 ≤ (x5_1 : Int) := of_decide_eq_true (g1_)
      have q191 : x5_1 < (l0.length : Int) := of_decide_eq_true (g1_)
      obtain ⟨ad191, e191, hx191_0, hx191_1⟩ := at_T36 HR0.out x5_1 p191 q191
      cases e191
      replace p191 := eq_true p191
      replace q191 := eq_true q191
      have p192 : 0 ≤ (x5_1 : Int) := of_decide_eq_true (g1_)
      have q192 : x5_1 < (l1.length : Int) := of_decide_eq_true (g1_)
      obtain ⟨ad192, e192, hx192_0, hx192_1⟩ := at_T36 HR1.out x5_1 p192 q192
      cases e192
      replace p192 := eq_true p192
      replace q192 := eq_true q192
      go_wp2
      repeat (go_quiet (fail); try go_wp2)
      go_ret
      exact ⟨g3_, g5_⟩
     ·rw [if_neg c7] at H
      have c7b0 : (!(((rd_T36 l0 x5_1).f0) == ((rd_T36 l1 x5_1).f0)) || (!(((rd_T36 l0 x5_1).f1) == ((rd_T36 l1 x5_1).f1)))) = false := by simpa using c7
      clear c7
      have H' := Aside0.mk H
      clear H
      have p191 : 0 ≤ (x5_1 : Int) := of_decide_eq_true (g1_)
      have q191 : x5_1 < (l0.length : Int) := of_decide_eq_true (g1_)
      obtain ⟨ad191, e191, hx191_0, hx191_1⟩ := at_T36 HR0.out x5_1 p191 q191
      cases e191
      replace p191 := eq_true p191
      replace q191 := eq_true q191
      have p192 : 0 ≤ (x5_1 : Int) := of_decide_eq_true (g1_)
      have q192 : x5_1 < (l1.length : Int) := of_decide_eq_true (g1_)
      obtain ⟨ad192, e192, hx192_0, hx192_1⟩ := at_T36 HR1.out x5_1 p192 q192
      cases e192
      replace p192 := eq_true p192
      replace q192 := eq_true q192
      go_wp2
      repeat (go_quiet (fail); try go_wp2)
      go_roundg k1
      case measure => have := HK1.out; omega
      case rel => exact ⟨(wrap64 (x5_1 + 1)), (g3_), H', ⟨g9_⟩, g5_⟩
    ·rw [if_neg c4] at H
     have c4b0 := decide_eq_false c4
     clear c4
     obtain rfl := Option.some.inj H
     go_wp2
     repeat (go_quiet (fail); try go_wp2)
     go_ret
     exact ⟨g3_, g5_⟩
 ·rw [if_neg c3] at H
  have c3b0 : ((l0.length : Int) == (l1.length : Int)) = false := beq_eq_false_iff_ne.mpr c3
  have c3b1 : ((l0.length : Int) != (l1.length : Int)) = true := bne_iff_ne.mpr c3
  have c3b2 : (l0.length == l1.length) = false := by first | simpa using c3 | (simp at c3 ⊢; omega)
  obtain rfl := Option.some.inj H
  go_enter Try.func14, Try.ntmps14
  go_wp2
  repeat (go_quiet (fail); try go_wp2)
  go_ret
  exact ⟨g3_, g5_⟩
def impl_isNumber.f (a0 : Int) : Option (Bool) := if a0 ≥ (-1000000000) then (some (decide (a0 ≤ 1000000000))) else (some false)
set_option maxHeartbeats 8000000 in
set_option maxRecDepth 100000 in
theorem impl_isNumber.calls (a0 : Int) (r : Bool) (w : World) (h : impl_isNumber.f a0 = some r) :
  Calls Try.prog 96 #[.int .i64 a0] w fun e w' => e = .returned (.bool r) ∧ Drawn0 w w' := by
 have H : (if a0 ≥ (-1000000000) then (some (decide (a0 ≤ 1000000000))) else (some false)) = some r := h
 clear h
 by_cases c2 : a0 ≥ (-1000000000)
 ·rw [if_pos c2] at H
  have c2b0 := decide_eq_true c2
  clear c2
  obtain rfl := Option.some.inj H
  go_enter Try.func96, Try.ntmps96
  go_wp2
  go_ret
  exact ⟨g3_, g5_⟩
 ·rw [if_neg c2] at H
  have c2b0 := decide_eq_false c2
  clear c2
  obtain rfl := Option.some.inj H
  go_enter Try.func96, Try.ntmps96
  go_wp2
  go_ret
  exact ⟨g3_, g5_⟩
def impl_gcd.l0 : Nat → Int → Int → Option (Int)
 | 0, _, _ => none
 | k + 1, x0, x1 => if x1 = 0 then (some (mx x0 (wrap64 (-x0)))) else (impl_gcd.l0 k x1 (Int.tmod x0 x1))
def impl_gcd.f (k : Nat) (a0 : Int) (a1 : Int) : Option (Int) := impl_gcd.l0 k a0 a1
theorem impl_gcd.mq {p : Prop} (h : p := by
 repeat' first
 | (with_reducible exact ih0 _ _)
 | (with_reducible exact LeO.refl _)
 | (with_reducible exact LeO.none _)
 | (with_reducible refine LeO.ite ?_ ?_)
 | (with_reducible refine LeO.bind ?_ (fun _ => ?_))
 | exact ih0 _ _
 | exact LeO.none _
 | refine LeO.ite ?_ ?_
 | refine LeO.bind ?_ (fun _ => ?_)) : p := h
theorem impl_gcd.mono_l : ∀ k, (∀ y0 y1, LeO (impl_gcd.l0 k y0 y1) (impl_gcd.l0 (k + 1) y0 y1))
 | 0 => fun _ _ r h => by simp [impl_gcd.l0] at h
 | k + 1 => by
  have ih0 := impl_gcd.mono_l k
  ·intro y0 y1
   unfold impl_gcd.l0
   exact impl_gcd.mq
theorem impl_gcd.mono : ∀ a0 a1 k, LeO (impl_gcd.f k a0 a1) (impl_gcd.f (k + 1) a0 a1) := by
 intro a0 a1 k
 have ih0 := impl_gcd.mono_l k
 unfold impl_gcd.f
 exact impl_gcd.mq
theorem qz26_ {p : Prop} (h : p := by repeat (first | (with_reducible first | exact HB.out | apply below_alloc | apply pw_below_drewN | apply below_drew1) | exact HB.out)) : p := h
set_option maxHeartbeats 8000000 in
set_option maxRecDepth 100000 in
theorem impl_gcd.calls (k : Nat) (a0 : Int) (a1 : Int) (r : Int) (w : World) (h : impl_gcd.f k a0 a1 = some r) :
  Calls Try.prog 97 #[.int .i64 a0, .int .i64 a1] w fun e w' => e = .returned (.int .i64 r) ∧ Below w.heap.size w w' := by
 have HB := Aside0.mk (Below.refl w.heap.size w)
 have H : (impl_gcd.l0 k a0 a1) = some r := h
 clear h
 have H' := Aside0.mk H
 clear H
 go_enter Try.func97, Try.ntmps97
 go_wp2
 repeat (go_quiet (fail); try go_wp2)
 go_loopg [0, 1] k (fun kq v0 v1 w' => ∃ (x0_1 : Int) (x1_1 : Int), v0 = .int .i64 x0_1 ∧ v1 = .int .i64 x1_1 ∧ Aside0 (impl_gcd.l0 kq x0_1 x1_1 = some r) ∧ Aside0 (kq ≤ k) ∧ Aside0 (Below w.heap.size w w'))
 case atStart => exact ⟨(a0), (a1), (g3_), (g3_), H', ⟨Nat.le_refl _⟩, ⟨qz26_⟩⟩
 case round =>
  clear H'
  try clear p2
  obtain ⟨x0_1, x1_1, rfl, rfl, HA, HK1, HB⟩ := hrel
  cases gk with
  | zero => exact absurd HA.out (by simp [impl_gcd.l0])
  | succ k1 =>
   have H := HA.out
   clear HA
   simp only [impl_gcd.l0] at H
   by_cases c3 : x1_1 = 0
   ·rw [if_pos c3] at H
    have c3b0 : (x1_1 == 0) = true := beq_iff_eq.mpr c3
    have c3b1 : (x1_1 != 0) = false := bne_eq_false_iff_eq.mpr c3
    clear c3
    obtain ⟨ji4, hji4⟩ : ∃ j_ : Int, (mx x0_1 (wrap64 (-x0_1))) = j_ := ⟨_, rfl⟩
    replace H : (some ji4) = some r := by first | (rw [hji4] at H; exact H) | (simp only [hji4] at H ⊢; exact H)
    have hji4_ : (if x0_1 < (wrap64 (-x0_1)) then (wrap64 (-x0_1)) else x0_1) = ji4 := hji4
    obtain rfl := Option.some.inj H
    go_wp2
    repeat (go_quiet (fail); try go_wp2)
    go_ret
    exact ⟨by first | rfl | (simp [errW_none, errW_some] <;> rfl) | (simp only [← hji4]; first | rfl | (simp [errW_none, errW_some] <;> rfl)) | (simp [*, errW_none, errW_some] <;> rfl), qz26_⟩
   ·rw [if_neg c3] at H
    have c3b0 : (x1_1 == 0) = false := beq_eq_false_iff_ne.mpr c3
    have c3b1 : (x1_1 != 0) = true := bne_iff_ne.mpr c3
    have H' := Aside0.mk H
    clear H
    go_wp2
    repeat (go_quiet (fail); try go_wp2)
    go_roundg k1
    case measure => have := HK1.out; omega
    case rel => exact ⟨(x1_1), (Int.tmod x0_1 x1_1), (g3_), (g3_), H', ⟨g9_⟩, ⟨qz26_⟩⟩
def impl_isFrac.f (k : Nat) (a0_0 : Int) (a0_1 : Int) : Option (Bool) := (impl_isNumber.f a0_0).bind fun t215 => (if t215 = true then (if a0_1 ≥ 1 then (if a0_1 ≤ 1000000000 then ((impl_gcd.f k a0_0 a0_1).bind fun t216 => (some (t216 == 1))) else (some false)) else (some false)) else (some false))
theorem impl_isFrac.mq {p : Prop} (h : p := by
 repeat' first
 | (with_reducible exact impl_gcd.mono _ _ _)
 | (with_reducible exact LeO.refl _)
 | (with_reducible exact LeO.none _)
 | (with_reducible refine LeO.ite ?_ ?_)
 | (with_reducible refine LeO.bind ?_ (fun _ => ?_))
 | exact impl_gcd.mono _ _ _
 | exact LeO.none _
 | refine LeO.ite ?_ ?_
 | refine LeO.bind ?_ (fun _ => ?_)) : p := h
theorem impl_isFrac.mono : ∀ a0 a1 k, LeO (impl_isFrac.f k a0 a1) (impl_isFrac.f (k + 1) a0 a1) := by
 intro a0 a1 k
 unfold impl_isFrac.f
 exact impl_isFrac.mq
theorem qz6_ {p : Prop} (h : p := by repeat (first | (with_reducible first | exact HB.out | apply below_alloc | apply pw_below_drewN | apply below_drew1 | refine below_set ?_ GE214.out) | exact HB.out)) : p := h
set_option maxHeartbeats 8000000 in
set_option maxRecDepth 100000 in
theorem impl_isFrac.calls (k : Nat) (a0_0 : Int) (a0_1 : Int) (r : Bool) (w : World) (h : impl_isFrac.f k a0_0 a0_1 = some r) :
  Calls Try.prog 77 #[.agg #[.int .i64 a0_0, .int .i64 a0_1]] w fun e w' => e = .returned (.bool r) ∧ Below w.heap.size w w' := by
 have hu36 := Try.underlying36
 have HB := Aside0.mk (Below.refl w.heap.size w)
 have H : ((impl_isNumber.f a0_0).bind fun t215 => (if t215 = true then (if a0_1 ≥ 1 then (if a0_1 ≤ 1000000000 then ((impl_gcd.f k a0_0 a0_1).bind fun t216 => (some (t216 == 1))) else (some false)) else (some false)) else (some false))) = some r := h
 clear h
 obtain ⟨t215, A2, H⟩ := bind_ H
 by_cases c3 : t215 = true
 ·subst c3
  replace H := ifp_ H
  by_cases c4 : a0_1 ≥ 1
  ·rw [if_pos c4] at H
   have c4b0 := decide_eq_true c4
   clear c4
   by_cases c5 : a0_1 ≤ 1000000000
   ·rw [if_pos c5] at H
    have c5b0 := decide_eq_true c5
    clear c5
    obtain ⟨t216, A6, H⟩ := bind_ H
    obtain rfl := Option.some.inj H
    go_enter Try.func77, Try.ntmps77
    go_wp2_with (first | ((with_reducible refine gate_dst (N := 1) rfl ?_); refine bx_ (N := 1) #[.int .i64 a0_0, .int .i64 a0_1] 36 ?_; intro gb214 hg w7 hbox hb; have BK214 := Aside0.mk (hbox); have GW214 := Aside0.mk ((g41_ : w.heap.size ≤ gb214)); have GE214 := Aside0.mk ((g41_ : w.heap.size ≤ gb214)); replace HB := Aside0.mk (below_step (qz6_) hb); clear hb hbox hg; obtain ⟨hcz8_0, hcz8_1, hfz8_0, hfz8_1⟩ := blk2_ BK214) | ((with_reducible refine gate_callee (f := 96) rfl ?_); refine goesL_ (some 5) rfl rfl Try.func96 k_ rfl #[.int .i64 a0_0] rfl (g2_) ?_; (with_reducible refine (impl_isNumber.calls a0_0 true _ A2.out).mono ?_); rintro e w' ⟨rfl, ⟨nd, rfl⟩⟩; refine ⟨_, rfl, ?_⟩) | (go_at_call 97; (with_reducible refine (impl_gcd.calls k a0_0 a0_1 t216 _ A6.out).mono ?_); rintro e w9 ⟨rfl, hb⟩; replace BK214 := bb_ BK214 hb; replace HB := Aside0.mk (below_step (qz6_) hb); (try clear hb); (try clear hk hi)))
    go_ret
    exact ⟨g4_, qz6_⟩
   ·rw [if_neg c5] at H
    have c5b0 := decide_eq_false c5
    clear c5
    obtain rfl := Option.some.inj H
    go_enter Try.func77, Try.ntmps77
    go_wp2_with (first | ((with_reducible refine gate_dst (N := 1) rfl ?_); refine bx_ (N := 1) #[.int .i64 a0_0, .int .i64 a0_1] 36 ?_; intro gb214 hg w10 hbox hb; have BK214 := Aside0.mk (hbox); have GW214 := Aside0.mk ((g41_ : w.heap.size ≤ gb214)); have GE214 := Aside0.mk ((g41_ : w.heap.size ≤ gb214)); replace HB := Aside0.mk (below_step (qz6_) hb); clear hb hbox hg; obtain ⟨hcz11_0, hcz11_1, hfz11_0, hfz11_1⟩ := blk2_ BK214) | ((with_reducible refine gate_callee (f := 96) rfl ?_); refine goesL_ (some 5) rfl rfl Try.func96 k_ rfl #[.int .i64 a0_0] rfl (g2_) ?_; (with_reducible refine (impl_isNumber.calls a0_0 true _ A2.out).mono ?_); rintro e w' ⟨rfl, ⟨nd, rfl⟩⟩; refine ⟨_, rfl, ?_⟩))
    go_ret
    exact ⟨g4_, qz6_⟩
  ·rw [if_neg c4] at H
   have c4b0 := decide_eq_false c4
   clear c4
   obtain rfl := Option.some.inj H
   go_enter Try.func77, Try.ntmps77
   go_wp2_with (first | ((with_reducible refine gate_dst (N := 1) rfl ?_); refine bx_ (N := 1) #[.int .i64 a0_0, .int .i64 a0_1] 36 ?_; intro gb214 hg w12 hbox hb; have BK214 := Aside0.mk (hbox); have GW214 := Aside0.mk ((g41_ : w.heap.size ≤ gb214)); have GE214 := Aside0.mk ((g41_ : w.heap.size ≤ gb214)); replace HB := Aside0.mk (below_step (qz6_) hb); clear hb hbox hg; obtain ⟨hcz13_0, hcz13_1, hfz13_0, hfz13_1⟩ := blk2_ BK214) | ((with_reducible refine gate_callee (f := 96) rfl ?_); refine goesL_ (some 5) rfl rfl Try.func96 k_ rfl #[.int .i64 a0_0] rfl (g2_) ?_; (with_reducible refine (impl_isNumber.calls a0_0 true _ A2.out).mono ?_); rintro e w' ⟨rfl, ⟨nd, rfl⟩⟩; refine ⟨_, rfl, ?_⟩))
   go_ret
   exact ⟨g4_, qz6_⟩
 ·replace c3 := Bool.eq_false_iff.mpr c3
  subst c3
  replace H := ifn_ H
  obtain rfl := Option.some.inj H
  go_enter Try.func77, Try.ntmps77
  go_wp2_with (first | ((with_reducible refine gate_dst (N := 1) rfl ?_); refine bx_ (N := 1) #[.int .i64 a0_0, .int .i64 a0_1] 36 ?_; intro gb214 hg w14 hbox hb; have BK214 := Aside0.mk (hbox); have GW214 := Aside0.mk ((g41_ : w.heap.size ≤ gb214)); have GE214 := Aside0.mk ((g41_ : w.heap.size ≤ gb214)); replace HB := Aside0.mk (below_step (qz6_) hb); clear hb hbox hg; obtain ⟨hcz15_0, hcz15_1, hfz15_0, hfz15_1⟩ := blk2_ BK214) | ((with_reducible refine gate_callee (f := 96) rfl ?_); refine goesL_ (some 5) rfl rfl Try.func96 k_ rfl #[.int .i64 a0_0] rfl (g2_) ?_; (with_reducible refine (impl_isNumber.calls a0_0 false _ A2.out).mono ?_); rintro e w' ⟨rfl, ⟨nd, rfl⟩⟩; refine ⟨_, rfl, ?_⟩))
  go_ret
  exact ⟨g4_, qz6_⟩
def impl_FracOk.f (k : Nat) (a0_0 : Int) (a0_1 : Int) : Option (Bool) := (impl_isFrac.f k a0_0 a0_1).bind fun t218 => (some t218)
theorem impl_FracOk.mq {p : Prop} (h : p := by
 repeat' first
 | (with_reducible exact impl_isFrac.mono _ _ _)
 | (with_reducible exact LeO.refl _)
 | (with_reducible exact LeO.none _)
 | (with_reducible refine LeO.ite ?_ ?_)
 | (with_reducible refine LeO.bind ?_ (fun _ => ?_))
 | exact impl_isFrac.mono _ _ _
 | exact LeO.none _
 | refine LeO.ite ?_ ?_
 | refine LeO.bind ?_ (fun _ => ?_)) : p := h
theorem impl_FracOk.mono : ∀ a0 a1 k, LeO (impl_FracOk.f k a0 a1) (impl_FracOk.f (k + 1) a0 a1) := by
 intro a0 a1 k
 unfold impl_FracOk.f
 exact impl_FracOk.mq
theorem qz27_ {p : Prop} (h : p := by repeat (first | (with_reducible first | exact HB.out | apply below_alloc | apply pw_below_drewN | apply below_drew1 | refine below_set ?_ GE217.out) | exact HB.out)) : p := h
set_option maxHeartbeats 8000000 in
set_option maxRecDepth 100000 in
theorem impl_FracOk.calls (k : Nat) (a0_0 : Int) (a0_1 : Int) (r : Bool) (w : World) (h : impl_FracOk.f k a0_0 a0_1 = some r) :
  Calls Try.prog 57 #[.agg #[.int .i64 a0_0, .int .i64 a0_1]] w fun e w' => e = .returned (.bool r) ∧ Below w.heap.size w w' := by
 have hu36 := Try.underlying36
 have HB := Aside0.mk (Below.refl w.heap.size w)
 have H : ((impl_isFrac.f k a0_0 a0_1).bind fun t218 => (some t218)) = some r := h
 clear h
 obtain ⟨t218, A2, H⟩ := bind_ H
 obtain rfl := Option.some.inj H
 go_enter Try.func57, Try.ntmps57
 go_wp2_with (first | ((with_reducible refine gate_dst (N := 1) rfl ?_); refine bx_ (N := 1) #[.int .i64 a0_0, .int .i64 a0_1] 36 ?_; intro gb217 hg w3 hbox hb; have BK217 := Aside0.mk (hbox); have GW217 := Aside0.mk ((by rw [hg]; exact (below_size (qz27_)) : w.heap.size ≤ gb217)); have GE217 := Aside0.mk ((by rw [hg]; exact (below_size (qz27_)) : w.heap.size ≤ gb217)); replace HB := Aside0.mk (below_step (qz27_) hb); clear hb hbox hg; obtain ⟨hcz4_0, hcz4_1, hfz4_0, hfz4_1⟩ := blk2_ BK217) | ((with_reducible refine gate_callee (f := 77) rfl ?_); refine goesL_ (some 4) rfl rfl Try.func77 k_ rfl #[.agg #[.int .i64 a0_0, .int .i64 a0_1]] rfl (g2_) ?_; (with_reducible refine (impl_isFrac.calls k a0_0 a0_1 t218 _ A2.out).mono ?_); rintro e w5 ⟨rfl, hb⟩; refine ⟨_, rfl, ?_⟩; replace BK217 := bb_ BK217 hb; replace HB := Aside0.mk (below_step (qz27_) hb); (try clear hb); (try clear hk hi)))
 go_ret
 exact ⟨g4_, qz27_⟩
def laws_alive.f (k : Nat)  : Option (Bool) := (impl_FracOk.f k 1 2).bind fun t219 => (if t219 = true then ((impl_FracOk.f k 2 4).bind fun t220 => (some (!t220))) else (some false))
theorem laws_alive.mq {p : Prop} (h : p := by
 repeat' first
 | (with_reducible exact impl_FracOk.mono _ _ _)
 | (with_reducible exact LeO.refl _)
 | (with_reducible exact LeO.none _)
 | (with_reducible refine LeO.ite ?_ ?_)
 | (with_reducible refine LeO.bind ?_ (fun _ => ?_))
 | exact impl_FracOk.mono _ _ _
 | exact LeO.none _
 | refine LeO.ite ?_ ?_
 | refine LeO.bind ?_ (fun _ => ?_)) : p := h
theorem laws_alive.mono : ∀ k, LeO (laws_alive.f k ) (laws_alive.f (k + 1) ) := by
 intro  k
 unfold laws_alive.f
 exact laws_alive.mq
theorem qz28_ {p : Prop} (h : p := by repeat (first | (with_reducible first | exact HB.out | apply below_alloc | apply pw_below_drewN | apply below_drew1) | exact HB.out)) : p := h
set_option maxHeartbeats 8000000 in
set_option maxRecDepth 100000 in
theorem laws_alive.calls (k : Nat)  (r : Bool) (w : World) (h : laws_alive.f k  = some r) :
  Calls Try.prog 17 #[] w fun e w' => e = .returned (.bool r) ∧ Below w.heap.size w w' := by
 have hu36 := Try.underlying36
 have HB := Aside0.mk (Below.refl w.heap.size w)
 have H : ((impl_FracOk.f k 1 2).bind fun t219 => (if t219 = true then ((impl_FracOk.f k 2 4).bind fun t220 => (some (!t220))) else (some false))) = some r := h
 clear h
 obtain ⟨t219, A1, H⟩ := bind_ H
 by_cases c2 : t219 = true
 ·subst c2
  replace H := ifp_ H
  obtain ⟨t220, A3, H⟩ := bind_ H
  obtain rfl := Option.some.inj H
  go_enter Try.func17, Try.ntmps17
  go_wp2_with (first | ((with_reducible refine gate_callee (f := 57) rfl ?_); refine goesL_ (some 2) rfl rfl Try.func57 k_ rfl #[.agg #[.int .i64 1, .int .i64 2]] rfl (g2_) ?_; (with_reducible refine (impl_FracOk.calls k 1 2 true _ A1.out).mono ?_); rintro e w4 ⟨rfl, hb⟩; refine ⟨_, rfl, ?_⟩; replace HB := Aside0.mk (below_step (qz28_) hb); (try clear hb); (try clear hk hi)) | (go_at_call 57; (with_reducible refine (impl_FracOk.calls k 2 4 t220 _ A3.out).mono ?_); rintro e w5 ⟨rfl, hb⟩; replace HB := Aside0.mk (below_step (qz28_) hb); (try clear hb); (try clear hk hi)))
  go_ret
  exact ⟨g4_, qz28_⟩
 ·replace c2 := Bool.eq_false_iff.mpr c2
  subst c2
  replace H := ifn_ H
  obtain rfl := Option.some.inj H
  go_enter Try.func17, Try.ntmps17
  go_wp2_with (first | ((with_reducible refine gate_callee (f := 57) rfl ?_); refine goesL_ (some 2) rfl rfl Try.func57 k_ rfl #[.agg #[.int .i64 1, .int .i64 2]] rfl (g2_) ?_; (with_reducible refine (impl_FracOk.calls k 1 2 false _ A1.out).mono ?_); rintro e w6 ⟨rfl, hb⟩; refine ⟨_, rfl, ?_⟩; replace HB := Aside0.mk (below_step (qz28_) hb); (try clear hb); (try clear hk hi)))
  go_ret
  exact ⟨g4_, qz28_⟩
def cmp_isNaN_int.f (a0 : Int) : Option (Bool) := some (a0 != a0)
set_option maxHeartbeats 8000000 in
set_option maxRecDepth 100000 in
theorem cmp_isNaN_int.calls (a0 : Int) (r : Bool) (w : World) (h : cmp_isNaN_int.f a0 = some r) :
  Calls Try.prog 101 #[.int .i64 a0] w fun e w' => e = .returned (.bool r) ∧ Drawn0 w w' := by
 have H : (some (a0 != a0)) = some r := h
 clear h
 obtain rfl := Option.some.inj H
 go_enter Try.func101, Try.ntmps101
 go_wp2
 go_ret
 exact ⟨g3_, g5_⟩
def cmp_Compare_int.f (a0 : Int) (a1 : Int) : Option (Int) := (cmp_isNaN_int.f a0).bind fun t221 => ((cmp_isNaN_int.f a1).bind fun t222 => (if t221 = true then (if t222 = true then (some 0) else (some (-1))) else (if t222 = true then (some 1) else (if a0 < a1 then (some (-1)) else (if a0 > a1 then (some 1) else (some 0))))))
set_option maxHeartbeats 8000000 in
set_option maxRecDepth 100000 in
theorem cmp_Compare_int.calls (a0 : Int) (a1 : Int) (r : Int) (w : World) (h : cmp_Compare_int.f a0 a1 = some r) :
  Calls Try.prog 98 #[.int .i64 a0, .int .i64 a1] w fun e w' => e = .returned (.int .i64 r) ∧ Drawn0 w w' := by
 have H : ((cmp_isNaN_int.f a0).bind fun t221 => ((cmp_isNaN_int.f a1).bind fun t222 => (if t221 = true then (if t222 = true then (some 0) else (some (-1))) else (if t222 = true then (some 1) else (if a0 < a1 then (some (-1)) else (if a0 > a1 then (some 1) else (some 0))))))) = some r := h
 clear h
 obtain ⟨t221, A3, H⟩ := bind_ H
 obtain ⟨t222, A4, H⟩ := bind_ H
 by_cases c5 : t221 = true
 ·subst c5
  replace H := ifp_ H
  by_cases c6 : t222 = true
  ·subst c6
   replace H := ifp_ H
   obtain rfl := Option.some.inj H
   go_enter Try.func98, Try.ntmps98
   go_wp2_with (first | ((with_reducible refine gate_callee (f := 101) rfl ?_); refine goesL_ (some 8) rfl rfl Try.func101 k_ rfl #[.int .i64 a0] rfl (g2_) ?_; (with_reducible refine (cmp_isNaN_int.calls a0 true _ A3.out).mono ?_); rintro e w' ⟨rfl, ⟨nd, rfl⟩⟩; refine ⟨_, rfl, ?_⟩) | ((with_reducible refine gate_callee (f := 101) rfl ?_); refine goesL_ (some 10) rfl rfl Try.func101 k_ rfl #[.int .i64 a1] rfl (g2_) ?_; (with_reducible refine (cmp_isNaN_int.calls a1 true _ A4.out).mono ?_); rintro e w' ⟨rfl, ⟨nd, rfl⟩⟩; refine ⟨_, rfl, ?_⟩))
   go_ret
   exact ⟨g3_, g5_⟩
  ·replace c6 := Bool.eq_false_iff.mpr c6
   subst c6
   replace H := ifn_ H
   obtain rfl := Option.some.inj H
   go_enter Try.func98, Try.ntmps98
   go_wp2_with (first | ((with_reducible refine gate_callee (f := 101) rfl ?_); refine goesL_ (some 8) rfl rfl Try.func101 k_ rfl #[.int .i64 a0] rfl (g2_) ?_; (with_reducible refine (cmp_isNaN_int.calls a0 true _ A3.out).mono ?_); rintro e w' ⟨rfl, ⟨nd, rfl⟩⟩; refine ⟨_, rfl, ?_⟩) | ((with_reducible refine gate_callee (f := 101) rfl ?_); refine goesL_ (some 10) rfl rfl Try.func101 k_ rfl #[.int .i64 a1] rfl (g2_) ?_; (with_reducible refine (cmp_isNaN_int.calls a1 false _ A4.out).mono ?_); rintro e w' ⟨rfl, ⟨nd, rfl⟩⟩; refine ⟨_, rfl, ?_⟩))
   go_ret
   exact ⟨g3_, g5_⟩
 ·replace c5 := Bool.eq_false_iff.mpr c5
  subst c5
  replace H := ifn_ H
  by_cases c7 : t222 = true
  ·subst c7
   replace H := ifp_ H
   obtain rfl := Option.some.inj H
   go_enter Try.func98, Try.ntmps98
   go_wp2_with (first | ((with_reducible refine gate_callee (f := 101) rfl ?_); refine goesL_ (some 8) rfl rfl Try.func101 k_ rfl #[.int .i64 a0] rfl (g2_) ?_; (with_reducible refine (cmp_isNaN_int.calls a0 false _ A3.out).mono ?_); rintro e w' ⟨rfl, ⟨nd, rfl⟩⟩; refine ⟨_, rfl, ?_⟩) | ((with_reducible refine gate_callee (f := 101) rfl ?_); refine goesL_ (some 10) rfl rfl Try.func101 k_ rfl #[.int .i64 a1] rfl (g2_) ?_; (with_reducible refine (cmp_isNaN_int.calls a1 true _ A4.out).mono ?_); rintro e w' ⟨rfl, ⟨nd, rfl⟩⟩; refine ⟨_, rfl, ?_⟩))
   go_ret
   exact ⟨g3_, g5_⟩
  ·replace c7 := Bool.eq_false_iff.mpr c7
   subst c7
   replace H := ifn_ H
   by_cases c8 : a0 < a1
   ·rw [if_pos c8] at H
    have c8b0 := decide_eq_true c8
    clear c8
    obtain rfl := Option.some.inj H
    go_enter Try.func98, Try.ntmps98
    go_wp2_with (first | ((with_reducible refine gate_callee (f := 101) rfl ?_); refine goesL_ (some 8) rfl rfl Try.func101 k_ rfl #[.int .i64 a0] rfl (g2_) ?_; (with_reducible refine (cmp_isNaN_int.calls a0 false _ A3.out).mono ?_); rintro e w' ⟨rfl, ⟨nd, rfl⟩⟩; refine ⟨_, rfl, ?_⟩) | ((with_reducible refine gate_callee (f := 101) rfl ?_); refine goesL_ (some 10) rfl rfl Try.func101 k_ rfl #[.int .i64 a1] rfl (g2_) ?_; (with_reducible refine (cmp_isNaN_int.calls a1 false _ A4.out).mono ?_); rintro e w' ⟨rfl, ⟨nd, rfl⟩⟩; refine ⟨_, rfl, ?_⟩))
    go_ret
    exact ⟨g3_, g5_⟩
   ·rw [if_neg c8] at H
    have c8b0 := decide_eq_false c8
    clear c8
    by_cases c9 : a0 > a1
    ·rw [if_pos c9] at H
     have c9b0 := decide_eq_true c9
     clear c9
     obtain rfl := Option.some.inj H
     go_enter Try.func98, Try.ntmps98
     go_wp2_with (first | ((with_reducible refine gate_callee (f := 101) rfl ?_); refine goesL_ (some 8) rfl rfl Try.func101 k_ rfl #[.int .i64 a0] rfl (g2_) ?_; (with_reducible refine (cmp_isNaN_int.calls a0 false _ A3.out).mono ?_); rintro e w' ⟨rfl, ⟨nd, rfl⟩⟩; refine ⟨_, rfl, ?_⟩) | ((with_reducible refine gate_callee (f := 101) rfl ?_); refine goesL_ (some 10) rfl rfl Try.func101 k_ rfl #[.int .i64 a1] rfl (g2_) ?_; (with_reducible refine (cmp_isNaN_int.calls a1 false _ A4.out).mono ?_); rintro e w' ⟨rfl, ⟨nd, rfl⟩⟩; refine ⟨_, rfl, ?_⟩))
     go_ret
     exact ⟨g3_, g5_⟩
    ·rw [if_neg c9] at H
     have c9b0 := decide_eq_false c9
     clear c9
     obtain rfl := Option.some.inj H
     go_enter Try.func98, Try.ntmps98
     go_wp2_with (first | ((with_reducible refine gate_callee (f := 101) rfl ?_); refine goesL_ (some 8) rfl rfl Try.func101 k_ rfl #[.int .i64 a0] rfl (g2_) ?_; (with_reducible refine (cmp_isNaN_int.calls a0 false _ A3.out).mono ?_); rintro e w' ⟨rfl, ⟨nd, rfl⟩⟩; refine ⟨_, rfl, ?_⟩) | ((with_reducible refine gate_callee (f := 101) rfl ?_); refine goesL_ (some 10) rfl rfl Try.func101 k_ rfl #[.int .i64 a1] rfl (g2_) ?_; (with_reducible refine (cmp_isNaN_int.calls a1 false _ A4.out).mono ?_); rintro e w' ⟨rfl, ⟨nd, rfl⟩⟩; refine ⟨_, rfl, ?_⟩))
     go_ret
     exact ⟨g3_, g5_⟩
def impl_compare.f (a0_0 : Int) (a0_1 : Int) (a1_0 : Int) (a1_1 : Int) : Option (Int) := (cmp_Compare_int.f (wrap64 (a0_0 * a1_1)) (wrap64 (a1_0 * a0_1))).bind fun t225 => (some t225)
theorem qz17_ {p : Prop} (h : p := by repeat (first | (with_reducible first | exact HB.out | apply below_alloc | apply pw_below_drewN | apply below_drew1 | refine below_set ?_ GE223.out | refine below_set ?_ GE224.out) | exact HB.out)) : p := h
set_option maxHeartbeats 8000000 in
set_option maxRecDepth 100000 in
theorem impl_compare.calls (a0_0 : Int) (a0_1 : Int) (a1_0 : Int) (a1_1 : Int) (r : Int) (w : World) (h : impl_compare.f a0_0 a0_1 a1_0 a1_1 = some r) :
  Calls Try.prog 78 #[.agg #[.int .i64 a0_0, .int .i64 a0_1], .agg #[.int .i64 a1_0, .int .i64 a1_1]] w fun e w' => e = .returned (.int .i64 r) ∧ Below w.heap.size w w' := by
 have hu36 := Try.underlying36
 have HB := Aside0.mk (Below.refl w.heap.size w)
 have H : ((cmp_Compare_int.f (wrap64 (a0_0 * a1_1)) (wrap64 (a1_0 * a0_1))).bind fun t225 => (some t225)) = some r := h
 clear h
 obtain ⟨t225, A3, H⟩ := bind_ H
 obtain rfl := Option.some.inj H
 go_enter Try.func78, Try.ntmps78
 go_wp2_with (first | ((with_reducible refine gate_dst (N := 2) rfl ?_); refine bx_ (N := 2) #[.int .i64 a0_0, .int .i64 a0_1] 36 ?_; intro gb223 hg w4 hbox hb; have BK223 := Aside0.mk (hbox); have GW223 := Aside0.mk ((g87_ : w.heap.size ≤ gb223)); have GE223 := Aside0.mk ((g87_ : w.heap.size ≤ gb223)); replace HB := Aside0.mk (below_step (qz17_) hb); clear hb hbox hg) | ((with_reducible refine gate_dst (N := 3) rfl ?_); refine bx_ (N := 3) #[.int .i64 a1_0, .int .i64 a1_1] 36 ?_; intro gb224 hg w5 hbox hb; have BK224 := Aside0.mk (hbox); have GW224 := Aside0.mk ((g87_ : w.heap.size ≤ gb224)); have GE224 := Aside0.mk ((g87_ : w.heap.size ≤ gb224)); replace HB := Aside0.mk (below_step (qz17_) hb); have NB223_224 := Aside0.mk ((by rw [hg]; exact Nat.ne_of_lt (blk_lt (g := gb223) (o := .cells #[.int .i64 a0_0, .int .i64 a0_1] 36 (0, 0)) (uf0_ BK223)) : gb223 ≠ gb224)); have NB224_223 := Aside0.mk ((by rw [hg]; exact Nat.ne_of_gt (blk_lt (g := gb223) (o := .cells #[.int .i64 a0_0, .int .i64 a0_1] 36 (0, 0)) (uf0_ BK223)) : gb224 ≠ gb223)); replace BK223 := bb_ BK223 hb; clear hb hbox hg; have hnb6 := NB223_224.out; have hnc6 := NB224_223.out; obtain ⟨hcz7_0, hcz7_1, hfz7_0, hfz7_1⟩ := blk2_ BK223; obtain ⟨hcz8_0, hcz8_1, hfz8_0, hfz8_1⟩ := blk2_ BK224) | ((with_reducible refine gate_callee (f := 98) rfl ?_); refine goesL_ (some 15) rfl rfl Try.func98 k_ rfl #[.int .i64 (wrap64 (a0_0 * a1_1)), .int .i64 (wrap64 (a1_0 * a0_1))] rfl (g2_) ?_; (with_reducible refine (cmp_Compare_int.calls (wrap64 (a0_0 * a1_1)) (wrap64 (a1_0 * a0_1)) t225 _ A3.out).mono ?_); rintro e w' ⟨rfl, ⟨nd, rfl⟩⟩; refine ⟨_, rfl, ?_⟩))
 go_ret
 exact ⟨g4_, qz17_⟩
mutual
def impl_owes.l0 : Nat → List Int → List (List Int) → Int → Int → Option (List Int)
 | 0, _, _, _, _ => none
 | k + 1, x3, x13, x14, x15 => if x15 < x14 then (if 0 ≤ x15 then (if x15 < (x13.length : Int) then (impl_owes.l1 k x3 x15 x13 x14 x15 (rd_L2 x13 x15) ((rd_L2 x13 x15).length : Int) 0) else (none)) else (none)) else (some x3)
def impl_owes.l1 : Nat → List Int → Int → List (List Int) → Int → Int → List Int → Int → Int → Option (List Int)
 | 0, _, _, _, _, _, _, _, _ => none
 | k + 1, x3, x4, x13, x14, x15, x20, x21, x22 => if x22 < x21 then (if 0 ≤ x22 then (if x22 < (x20.length : Int) then (if 0 ≤ x4 then (if x4 < (x3.length : Int) then (impl_owes.l1 k (x3.set (x4 : Int).toNat (wrap64 ((rd x3 x4) + (rd x20 x22)))) x4 x13 x14 x15 x20 x21 (wrap64 (x22 + 1))) else (none)) else (none)) else (none)) else (none)) else (impl_owes.l0 k x3 x13 x14 (wrap64 (x15 + 1)))
end
def impl_owes.f (k : Nat) (l0_0 : List Int) (l0_1 : List (List Int)) : Option (List Int) := if 0 ≤ (l0_0.length : Int) then (if ((l0_0.length : Int) : Int).toNat ≤ 35184372088832 then (impl_owes.l0 k (List.replicate ((l0_0.length : Int) : Int).toNat 0) l0_1 (l0_1.length : Int) 0) else (none)) else (none)
theorem impl_owes.mq {p : Prop} (h : p := by
 repeat' first
 | (with_reducible exact ih0 _ _ _ _)
 | (with_reducible exact ih1 _ _ _ _ _ _ _ _)
 | (with_reducible exact LeO.refl _)
 | (with_reducible exact LeO.none _)
 | (with_reducible refine LeO.ite ?_ ?_)
 | (with_reducible refine LeO.bind ?_ (fun _ => ?_))
 | exact ih0 _ _ _ _
 | exact ih1 _ _ _ _ _ _ _ _
 | exact LeO.none _
 | refine LeO.ite ?_ ?_
 | refine LeO.bind ?_ (fun _ => ?_)) : p := h
theorem impl_owes.mono_l : ∀ k, (∀ y0 y1 y2 y3, LeO (impl_owes.l0 k y0 y1 y2 y3) (impl_owes.l0 (k + 1) y0 y1 y2 y3)) ∧ (∀ y0 y1 y2 y3 y4 y5 y6 y7, LeO (impl_owes.l1 k y0 y1 y2 y3 y4 y5 y6 y7) (impl_owes.l1 (k + 1) y0 y1 y2 y3 y4 y5 y6 y7))
 | 0 => ⟨fun _ _ _ _ r h => by simp [impl_owes.l0] at h, fun _ _ _ _ _ _ _ _ r h => by simp [impl_owes.l1] at h⟩
 | k + 1 => by
  obtain ⟨ih0, ih1⟩ := impl_owes.mono_l k
  refine ⟨?_, ?_⟩
  ·intro y0 y1 y2 y3
   unfold impl_owes.l0
   exact impl_owes.mq
  ·intro y0 y1 y2 y3 y4 y5 y6 y7
   unfold impl_owes.l1
   exact impl_owes.mq
theorem impl_owes.mono : ∀ a0 a1 k, LeO (impl_owes.f k a0 a1) (impl_owes.f (k + 1) a0 a1) := by
 intro a0 a1 k
 obtain ⟨ih0, ih1⟩ := impl_owes.mono_l k
 unfold impl_owes.f
 exact impl_owes.mq
theorem qz29_ {p : Prop} (h : p := by repeat (first | (with_reducible first | exact HB.out | apply below_alloc | apply pw_below_drewN | apply below_drew1 | refine below_set ?_ GE226.out) | exact HB.out)) : p := h
set_option maxHeartbeats 8000000 in
set_option maxRecDepth 100000 in
theorem impl_owes.calls (k : Nat) (A0_0 : Option Addr) (c0_0 : Nat) (l0_0 : List Int) (A0_1 : Option Addr) (c0_1 : Nat) (l0_1 : List (List Int)) (r : List Int) (w : World) (hr0_0 : Kd.C (Kd.int .i64) w A0_0 l0_0.length l0_0) (hc0_0 : l0_0.length ≤ c0_0) (hr0_1 : Kd.C (Kd.slice 3 (Kd.int .i64)) w A0_1 l0_1.length l0_1) (hc0_1 : l0_1.length ≤ c0_1) (h : impl_owes.f k l0_0 l0_1 = some r) :
  Calls Try.prog 91 #[.agg #[.slice A0_0 l0_0.length c0_0, .slice A0_1 l0_1.length c0_1]] w fun e w' => ∃ v0_ : Value, e = .returned (v0_) ∧ Kd.R (Kd.int .i64) 3 w' w.heap.size (fun _ => True) v0_ r ∧ Below w.heap.size w w' := by
 have hu26 := Try.underlying26
 have HR0_0 := Aside0.mk hr0_0
 have HC0_0 := Aside0.mk hc0_0
 clear hr0_0 hc0_0
 have HR0_1 := Aside0.mk hr0_1
 have HC0_1 := Aside0.mk hc0_1
 clear hr0_1 hc0_1
 have HB := Aside0.mk (Below.refl w.heap.size w)
 have H : (if 0 ≤ (l0_0.length : Int) then (if ((l0_0.length : Int) : Int).toNat ≤ 35184372088832 then (impl_owes.l0 k (List.replicate ((l0_0.length : Int) : Int).toNat 0) l0_1 (l0_1.length : Int) 0) else (none)) else (none)) = some r := h
 clear h
 obtain ⟨c2, H⟩ := pos_ H
 have c2b0 := eq_true c2
 have c2b1 := decide_eq_true c2
 clear c2
 obtain ⟨c3, H⟩ := pos_ H
 have c3b0 := eq_true c3
 have c3b1 := decide_eq_true c3
 clear c3
 obtain ⟨y227, hy227⟩ : ∃ y_ : List Int, y_ = (List.replicate ((l0_0.length : Int) : Int).toNat 0) := ⟨_, rfl⟩
 replace H : (impl_owes.l0 k y227 l0_1 (l0_1.length : Int) 0) = some r := by first | (rw [hy227]; with_reducible exact H) | (have H2_ := (Option.bind_some _ _).symm.trans H; rw [hy227]; with_reducible exact H2_) | (have H2_ := (Option.bind_some _ _).symm.trans H; with_reducible exact H2_) | with_reducible exact H | (rw [hy227]; exact H) | exact H
 have Ny227 := Aside0.mk hy227
 clear hy227
 have H' := Aside0.mk H
 clear H
 go_enter Try.func91, Try.ntmps91
 go_wp2_with (first | ((with_reducible refine gate_dst (N := 1) rfl ?_); refine bx_ (N := 1) #[.slice A0_0 l0_0.length c0_0, .slice A0_1 l0_1.length c0_1] 26 ?_; intro gb226 hg w4 hbox hb; have BK226 := Aside0.mk (hbox); have GW226 := Aside0.mk ((by rw [hg]; exact (below_size (qz29_)) : w.heap.size ≤ gb226)); have GE226 := Aside0.mk ((by rw [hg]; exact (below_size (qz29_)) : w.heap.size ≤ gb226)); replace HB := Aside0.mk (below_step (qz29_) hb); clear hb hbox hg; obtain ⟨hcz5_0, hcz5_1, hfz5_0, hfz5_1⟩ := blk2_ BK226) | ((with_reducible refine gate_dst (N := 11) rfl ?_); refine Kd.R_make (Kd.int .i64) _ 3 rfl (N := 11) rfl 23 _ _ rfl (l0_0.length : Int) rfl rfl Try.underlying23 (.int .i64 0) 8 info3 rfl (by decide) (by omega) 0 (ok := fun _ => True) (okp := fun _ => True) rfl (fun _ hk => hk) trivial (of_decide_eq_true (g1_)) (Nat.le_trans (Nat.mul_le_mul_right _ (of_decide_eq_true (g1_) : (l0_0.length : Int).toNat ≤ 35184372088832)) (by omega)) (Below.refl _ _) (Nat.le_refl _) ?_; intro v228 w6 ho7 hb hg_ hnew_; clear hg_ hnew_; (first | rw [← Ny227.out] at ho7 | (simp only [Int.reduceToNat] at ho7; rw [← Ny227.out] at ho7)); have HO229 := Aside0.mk (Kd.R_lower ho7 (below_size (qz29_))); replace BK226 := bb_ BK226 hb; replace HB := Aside0.mk (below_step (qz29_) hb); clear hb ho7; obtain ⟨hcz8_0, hcz8_1, hfz8_0, hfz8_1⟩ := blk2_ BK226))
 go_loopg [15] k (fun kq v15 w' => ∃ (x3_1 : List Int) (x15_1 : Int), v15 = .int .i64 x15_1 ∧ Aside0 (impl_owes.l0 kq x3_1 l0_1 (l0_1.length : Int) x15_1 = some r) ∧ Aside0 (kq ≤ k) ∧ Aside0 (Kd.R (Kd.int .i64) 3 w' w.heap.size (fun _ => True) v228 x3_1) ∧ Aside0 (w'.heap[gb226]? = some (.cells #[(.slice A0_0 l0_0.length c0_0), (.slice A0_1 l0_1.length c0_1)] 26 (0, 0))) ∧ Aside0 (Below w.heap.size w w'))
 case atStart => exact ⟨(y227), (0), (g3_), H', ⟨Nat.le_refl _⟩, ⟨uf1_ HO229⟩, ⟨uf0_ BK226⟩, ⟨qz29_⟩⟩
 case round =>
  clear H'
  try clear c2
  try clear c2b0
  try clear c2b1
  try clear p2
  try clear c3
  try clear c3b0
  try clear c3b1
  try clear hcz5_0
  try clear hcz5_1
  try clear hcz8_0
  try clear hcz8_1
  try clear hfz5_0
  try clear hfz5_1
  try clear hfz8_0
  try clear hfz8_1
  obtain ⟨x3_1, x15_1, rfl, HA, HK1, HO_3, BK226, HB⟩ := hrel
  cases gk with
  | zero => exact absurd HA.out (by simp [impl_owes.l0])
  | succ k1 =>
   have H := HA.out
   clear HA
   simp only [impl_owes.l0] at H
   by_cases c9 : x15_1 < (l0_1.length : Int)
   ·rw [if_pos c9] at H
    have c9b0 := decide_eq_true c9
    clear c9
    obtain ⟨c10, H⟩ := pos_ H
    have c10b0 := decide_eq_true c10
    clear c10
    obtain ⟨c11, H⟩ := pos_ H
    have c11b0 := decide_eq_true c11
    clear c11
    have H' := Aside0.mk H
    clear H
    have p230 : 0 ≤ (x15_1 : Int) := of_decide_eq_true (g1_)
    have q230 : x15_1 < (l0_1.length : Int) := of_decide_eq_true (g1_)
    obtain ⟨ad230, A230_0, c230_0, e230, hx230_0, hl230_0, hi230_0⟩ := at_L2 HR0_1.out x15_1 p230 q230
    cases e230
    replace hx230_0 := cl_ HB hx230_0
    have HR230_0 := Aside0.mk hi230_0
    have HC230_0 := Aside0.mk hl230_0
    clear hi230_0 hl230_0
    replace p230 := eq_true p230
    replace q230 := eq_true q230
    go_wp2
    go_loopg [22] k1 (fun kq v22 w' => ∃ (x3_2 : List Int) (x22_2 : Int), v22 = .int .i64 x22_2 ∧ Aside0 (impl_owes.l1 kq x3_2 x15_1 l0_1 (l0_1.length : Int) x15_1 (rd_L2 l0_1 x15_1) ((rd_L2 l0_1 x15_1).length : Int) x22_2 = some r) ∧ Aside0 (kq ≤ k1) ∧ Aside0 (Kd.R (Kd.int .i64) 3 w' w.heap.size (fun _ => True) v228 x3_2) ∧ Aside0 (w'.heap[gb226]? = some (.cells #[(.slice A0_0 l0_0.length c0_0), (.slice (some ad230) l0_1.length c0_1)] 26 (0, 0))) ∧ Aside0 (Below w.heap.size w w'))
    case atStart => exact ⟨(x3_1), (0), (g3_), H', ⟨Nat.le_refl _⟩, ⟨uf1_ HO_3⟩, ⟨uf0_ BK226⟩, ⟨qz29_⟩⟩
    case round =>
     clear H'
     try clear c1
     try clear c2
     try clear c2b0
     try clear c2b1
     try clear p2
     try clear q2
     try clear hx2
     try clear c3
     try clear c3b0
     try clear c3b1
     try clear c9
     try clear c9b0
     try clear c10
     try clear c10b0
     try clear c11
     try clear c11b0
     try clear hcz5_0
     try clear hcz5_1
     try clear hcz8_0
     try clear hcz8_1
     try clear hfz5_0
     try clear hfz5_1
     try clear hfz8_0
     try clear hfz8_1
     try clear hx230_0
     try clear p2
     try clear p230
     try clear q230
     obtain ⟨x3_2, x22_2, rfl, HA, HK2, HO_3, BK226, HB⟩ := hrel
     cases gk with
     | zero => exact absurd HA.out (by simp [impl_owes.l1])
     | succ k2 =>
      have H := HA.out
      clear HA
      simp only [impl_owes.l1] at H
      by_cases c12 : x22_2 < ((rd_L2 l0_1 x15_1).length : Int)
      ·rw [if_pos c12] at H
       have c12b0 := decide_eq_true c12
       clear c12
       obtain ⟨c13, H⟩ := pos_ H
       have c13b0 := decide_eq_true c13
       clear c13
       obtain ⟨c14, H⟩ := pos_ H
       have c14b0 := decide_eq_true c14
       clear c14
       obtain ⟨c15, H⟩ := pos_ H
       have c15b0 := decide_eq_true c15
       clear c15
       obtain ⟨c16, H⟩ := pos_ H
       have c16b0 := decide_eq_true c16
       clear c16
       obtain ⟨y233, hy233⟩ : ∃ y_ : List Int, y_ = (x3_2.set (x15_1 : Int).toNat (wrap64 ((rd x3_2 x15_1) + (rd (rd_L2 l0_1 x15_1) x22_2)))) := ⟨_, rfl⟩
       replace H : (impl_owes.l1 k2 y233 x15_1 l0_1 (l0_1.length : Int) x15_1 (rd_L2 l0_1 x15_1) ((rd_L2 l0_1 x15_1).length : Int) (wrap64 (x22_2 + 1))) = some r := by first | (rw [hy233]; with_reducible exact H) | (have H2_ := (Option.bind_some _ _).symm.trans H; rw [hy233]; with_reducible exact H2_) | (have H2_ := (Option.bind_some _ _).symm.trans H; with_reducible exact H2_) | with_reducible exact H | (rw [hy233]; exact H) | exact H
       have Ny233 := Aside0.mk hy233
       clear hy233
       have H' := Aside0.mk H
       clear H
       have p231 : 0 ≤ (x22_2 : Int) := of_decide_eq_true (g1_)
       have q231 : x22_2 < ((rd_L2 l0_1 x15_1).length : Int) := of_decide_eq_true (g1_)
       obtain ⟨ad231, e231, hx231_0⟩ := Kd.at_int HR230_0.out x22_2 p231 q231
       cases e231
       replace hx231_0 := cl_ HB hx231_0
       replace p231 := eq_true p231
       replace q231 := eq_true q231
       obtain ⟨Ao18, co18, eo18⟩ := Kd.R_slice HO_3.out
       subst eo18
       have p232 : 0 ≤ (x15_1 : Int) := of_decide_eq_true (g1_)
       have q232 : x15_1 < (x3_2.length : Int) := of_decide_eq_true (g1_)
       obtain ⟨ad232, e232, hx232_0⟩ := Kd.at_int (Kd.R_reads' HO_3.out).2.2 x15_1 p232 q232
       cases e232
       replace p232 := eq_true p232
       replace q232 := eq_true q232
       have p17 : 0 ≤ (x15_1 : Int) := of_decide_eq_true (g1_)
       have q17 : (x15_1 : Int) < ((x3_2.length : Int) : Int) := of_decide_eq_true (g1_)
       obtain ⟨go17, co17, eo17, gb17, gl17, cl17, HG17⟩ := Kd.R_form HO_3.out (by omega)
       (first | cases eo17 | (injection eo17 with ea_ en_ ec_; (first | subst ea_ | (injection ea_ with ea_; subst ea_)); subst ec_; clear en_))
       have GB17 := Aside0.mk gb17
       have GG17 := Aside0.mk HG17
       clear gb17 gl17 HG17
       (first | simp only [add_plain] at hx232_0 | skip)
       obtain ⟨hx17_0, hf17_0⟩ := Kd.R_celln 0 HO_3.out (x15_1 : Int) p17 q17
       replace p17 := eq_true p17
       replace q17 := eq_true q17
       have HP19 := Kd.R_putg HO_3.out (x15_1 : Int) (wrap64 ((rd x3_2 x15_1) + (rd (rd_L2 l0_1 x15_1) x22_2)))
       go_wp2_with (first | ((with_reducible refine gate_store (t := 3) (p := 32) rfl ?_); refine store_event (t := 3) (p := 32) (v := ?vo_w20) (w1 := (wr.setCell ⟨go17, (x15_1 : Int).toNat, none⟩ (.int .i64 (wrap64 ((rd x3_2 x15_1) + (rd (rd_L2 l0_1 x15_1) x22_2)))))) ?hg ?ho ?hn ?hr ?_; (case ho => rfl); (case hg => rfl); (case hn => rfl); (case hr => first | (go_simp; done) | (go_simp; rfl)); intro w20 hw; have hg : wr.grownBy w20 (some go17) := (by rw [hw]; exact HP19.2); have hp_ : Kd.R (Kd.int .i64) 3 w20 w.heap.size (fun _ => True) (.slice (some ⟨go17, 0, none⟩) x3_2.length co18) y233 := (by rw [hw, Ny233.out]; exact HP19.1); clear HP19; replace BK226 := Aside0.mk (blk_grown (g := gb226) (o := .cells #[.slice A0_0 l0_0.length c0_0, .slice (some ad230) l0_1.length c0_1] 26 (0, 0)) (uf0_ BK226) hg (Kd.R_ne HO_3.out BK226.out (by decide))); replace HO_3 := Aside0.mk (hp_); replace HB := Aside0.mk ((by rw [hw]; exact below_set (HB.out) GB17.out : Below w.heap.size w w20)); clear hg hw hp_))
       go_roundg k2
       case measure => have := HK1.out; have := HK2.out; omega
       case rel => exact ⟨(y233), (wrap64 (x22_2 + 1)), (g3_), H', ⟨g34_⟩, ⟨uf1_ HO_3⟩, ⟨uf0_ BK226⟩, ⟨qz29_⟩⟩
      ·rw [if_neg c12] at H
       have c12b0 := decide_eq_false c12
       clear c12
       have H' := Aside0.mk H
       clear H
       go_wp2
       go_roundg k2
       case measure => have := HK1.out; have := HK2.out; omega
       case rel => exact ⟨(x3_2), (wrap64 (x15_1 + 1)), (g3_), H', ⟨g34_⟩, ⟨uf1_ HO_3⟩, ⟨uf0_ BK226⟩, ⟨qz29_⟩⟩
   ·rw [if_neg c9] at H
    have c9b0 := decide_eq_false c9
    clear c9
    obtain rfl := Option.some.inj H
    go_wp2
    go_ret
    exact ⟨_, g4_, uf1_ HO_3, qz29_⟩
mutual
def impl_arePays.j0 : Nat → List (S36) → Bool → List Int → List (List Int) → Option (Bool)
 | 0, _, _, _, _ => none
 | k + 1, x1, x17, x235000, x235001 => if x17 = true then (some false) else ((impl_owes.f k x235000 x235001).bind fun t236 => (impl_arePays.l0 k x1 t236 (t236.length : Int) 0))
def impl_arePays.l0 : Nat → List (S36) → List Int → Int → Int → Option (Bool)
 | 0, _, _, _, _ => none
 | k + 1, x1, x19, x20, x21 => if x21 < x20 then (if 0 ≤ x21 then (if x21 < (x19.length : Int) then (if x21 < (x1.length : Int) then ((impl_isFrac.f k ((rd_T36 x1 x21).f0) ((rd_T36 x1 x21).f1)).bind fun t241 => (if t241 = true then (if ((rd_T36 x1 x21).f0) < 0 then (some false) else ((impl_whole.f (rd x19 x21)).bind fun bt244 => ((impl_compare.f ((rd_T36 x1 x21).f0) ((rd_T36 x1 x21).f1) bt244.1 bt244.2).bind fun t246 => (if t246 > 0 then (some false) else (impl_arePays.l0 k x1 x19 x20 (wrap64 (x21 + 1))))))) else (some false))) else (none)) else (none)) else (none)) else (some true)
end
def impl_arePays.f (k : Nat) (l0_0 : List Int) (l0_1 : List (List Int)) (l1 : List (S36)) : Option (Bool) := (impl_isBook.f k l0_0 l0_1).bind fun t235 => (if t235 = true then (impl_arePays.j0 k l1 ((l1.length : Int) != (l0_0.length : Int)) l0_0 l0_1) else (impl_arePays.j0 k l1 true l0_0 l0_1))
theorem impl_arePays.mq {p : Prop} (h : p := by
 repeat' first
 | (with_reducible exact ih0 _ _ _ _)
 | (with_reducible exact ih1 _ _ _ _)
 | (with_reducible exact impl_isBook.mono _ _ _)
 | (with_reducible exact impl_isFrac.mono _ _ _)
 | (with_reducible exact impl_owes.mono _ _ _)
 | (with_reducible exact LeO.refl _)
 | (with_reducible exact LeO.none _)
 | (with_reducible refine LeO.ite ?_ ?_)
 | (with_reducible refine LeO.bind ?_ (fun _ => ?_))
 | exact ih0 _ _ _ _
 | exact ih1 _ _ _ _
 | exact impl_isBook.mono _ _ _
 | exact impl_isFrac.mono _ _ _
 | exact impl_owes.mono _ _ _
 | exact LeO.none _
 | refine LeO.ite ?_ ?_
 | refine LeO.bind ?_ (fun _ => ?_)) : p := h
theorem impl_arePays.mono_l : ∀ k, (∀ y0 y1 y2 y3, LeO (impl_arePays.j0 k y0 y1 y2 y3) (impl_arePays.j0 (k + 1) y0 y1 y2 y3)) ∧ (∀ y0 y1 y2 y3, LeO (impl_arePays.l0 k y0 y1 y2 y3) (impl_arePays.l0 (k + 1) y0 y1 y2 y3))
 | 0 => ⟨fun _ _ _ _ r h => by simp [impl_arePays.j0] at h, fun _ _ _ _ r h => by simp [impl_arePays.l0] at h⟩
 | k + 1 => by
  obtain ⟨ih0, ih1⟩ := impl_arePays.mono_l k
  refine ⟨?_, ?_⟩
  ·intro y0 y1 y2 y3
   unfold impl_arePays.j0
   exact impl_arePays.mq
  ·intro y0 y1 y2 y3
   unfold impl_arePays.l0
   exact impl_arePays.mq
theorem impl_arePays.mono : ∀ a0 a1 a2 k, LeO (impl_arePays.f k a0 a1 a2) (impl_arePays.f (k + 1) a0 a1 a2) := by
 intro a0 a1 a2 k
 obtain ⟨ih0, ih1⟩ := impl_arePays.mono_l k
 unfold impl_arePays.f
 exact impl_arePays.mq
def impl_arePays.T6 : Bool × List (List Nat × List Nat) := (true, [([], []), ([], []), ([0, 1], [0, 1]), ([2], [2]), ([3], [3]), ([4], [4]), ([5, 4], [5]), ([6], [6]), ([6], [6]), ([7, 8, 6], [6, 7, 8]), ([9, 6], [6, 9]), ([10, 6], [6, 10]), ([11, 6], [6, 11]), ([6, 12], [6, 12]), ([13, 6], [13]), ([14], [14]), ([14], [14]), ([15, 16, 14], [14, 15, 16]), ([17, 14], [14, 17]), ([14], [14]), ([19, 14, 14], [14, 19]), ([18, 20, 20, 14], [14, 18, 20]), ([21, 14], [14, 21]), ([14, 22], [14, 22])])
def impl_arePays.B6 : List Nat := [0, 0, 3, 7, 15, 31, 63, 127, 127, 511, 1023, 2047, 4095, 8191, 16383, 32767, 32767, 131071, 262143, 32767, 557055, 2097151, 4194303, 8388607]
theorem impl_arePays.tab6 : rtab .any (opsOf Try.f58 6) = impl_arePays.T6 := by kernel_rfl
theorem impl_arePays.bits6 : waitsOk impl_arePays.T6.2 impl_arePays.B6 = true := by kernel_rfl
theorem qz30_ {p : Prop} (h : p := by repeat (first | (with_reducible first | exact HB.out | apply below_alloc | apply pw_below_drewN | apply below_drew1 | refine below_set ?_ GE234.out) | exact HB.out)) : p := h
set_option maxHeartbeats 8000000 in
set_option maxRecDepth 100000 in
theorem impl_arePays.calls (k : Nat) (A0_0 : Option Addr) (c0_0 : Nat) (l0_0 : List Int) (A0_1 : Option Addr) (c0_1 : Nat) (l0_1 : List (List Int)) (A1 : Option Addr) (c1 : Nat) (l1 : List (S36)) (r : Bool) (w : World) (hr0_0 : Kd.C (Kd.int .i64) w A0_0 l0_0.length l0_0) (hc0_0 : l0_0.length ≤ c0_0) (hr0_1 : Kd.C (Kd.slice 3 (Kd.int .i64)) w A0_1 l0_1.length l0_1) (hc0_1 : l0_1.length ≤ c0_1) (hr1 : Kd.C k36 w A1 l1.length l1) (hc1 : l1.length ≤ c1) (h : impl_arePays.f k l0_0 l0_1 l1 = some r) :
  Calls Try.prog 58 #[.agg #[.slice A0_0 l0_0.length c0_0, .slice A0_1 l0_1.length c0_1], .slice A1 l1.length c1] w fun e w' => e = .returned (.bool r) ∧ Below w.heap.size w w' := by
 have hu26 := Try.underlying26
 have hu36 := Try.underlying36
 have HR0_0 := Aside0.mk hr0_0
 have HC0_0 := Aside0.mk hc0_0
 clear hr0_0 hc0_0
 have HR0_1 := Aside0.mk hr0_1
 have HC0_1 := Aside0.mk hc0_1
 clear hr0_1 hc0_1
 have HR1 := Aside0.mk hr1
 have HC1 := Aside0.mk hc1
 clear hr1 hc1
 have HB := Aside0.mk (Below.refl w.heap.size w)
 have H : ((impl_isBook.f k l0_0 l0_1).bind fun t235 => (if t235 = true then (impl_arePays.j0 k l1 ((l1.length : Int) != (l0_0.length : Int)) l0_0 l0_1) else (impl_arePays.j0 k l1 true l0_0 l0_1))) = some r := h
 clear h
 have HC3 := Aside0.mk H
 clear H
 go_enter Try.func58, Try.ntmps58
 go_upto_region 1 with (first | ((with_reducible refine gate_dst (N := 2) rfl ?_); (try (refine gate_guard (by rfl) ?_; dsimp only)); refine bx_ (N := 2) #[.slice A0_0 l0_0.length c0_0, .slice A0_1 l0_1.length c0_1] 26 ?_; intro gb234 hg w4 hbox hb; have BK234 := Aside0.mk (hbox); have GW234 := Aside0.mk ((by rw [hg]; exact (below_size (qz30_)) : w.heap.size ≤ gb234)); have GE234 := Aside0.mk ((by rw [hg]; exact (below_size (qz30_)) : w.heap.size ≤ gb234)); replace HB := Aside0.mk (below_step (qz30_) hb); clear hb hbox hg))
 (try simp only [Act.put, List.setIfInBounds_toArray, List.set_cons_zero, List.set_cons_succ])
 go_cut [17] (fun v17 wc => ∃ (kq : Nat) (x17_2 : Bool), v17 = .bool x17_2 ∧ Aside0 (impl_arePays.j0 kq l1 x17_2 l0_0 l0_1 = some r) ∧ Aside0 (kq ≤ k) ∧ Aside0 (wc.heap[gb234]? = some (.cells #[(.slice A0_0 l0_0.length c0_0), (.slice A0_1 l0_1.length c0_1)] 26 (0, 0))) ∧ Aside0 (Below w.heap.size w wc))
 case first =>
  have H := HC3.out
  clear HC3
  obtain ⟨t235, A5, H⟩ := bind_ H
  by_cases c6 : t235 = true
  ·subst c6
   replace H := ifp_ H
   have H' := Aside0.mk H
   clear H
   obtain ⟨hcz7_0, hcz7_1, hfz7_0, hfz7_1⟩ := blk2_ BK234
   go_wp2_with (first | ((with_reducible refine gate_callee (f := 54) rfl ?_); refine goesL_ (some 8) rfl rfl Try.func54 k_ rfl #[.agg #[.slice A0_0 l0_0.length c0_0, .slice A0_1 l0_1.length c0_1]] rfl (g2_) ?_; (with_reducible refine (impl_isBook.calls k _ _ l0_0 _ _ l0_1 true _ ?side1 ?side2 ?side3 ?side4 A5.out).mono ?_); (case side1 => exact uf4_ HR0_0); (case side2 => exact HC0_0.out); (case side3 => exact uf4_ HR0_1); (case side4 => exact HC0_1.out); rintro e w8 ⟨rfl, hb⟩; refine ⟨_, rfl, ?_⟩; replace BK234 := bb_ BK234 hb; replace HB := Aside0.mk (below_step (qz30_) hb); (try clear hb); (try clear hk hi); obtain ⟨hcz9_0, hcz9_1, hfz9_0, hfz9_1⟩ := blk2_ BK234))
   go_meet
   case rel => exact ⟨_, (((l1.length : Int) != (l0_0.length : Int))), (g3_), H', ⟨g13_⟩, ⟨uf0_ BK234⟩, ⟨qz30_⟩⟩
  ·replace c6 := Bool.eq_false_iff.mpr c6
   subst c6
   replace H := ifn_ H
   have H' := Aside0.mk H
   clear H
   obtain ⟨hcz10_0, hcz10_1, hfz10_0, hfz10_1⟩ := blk2_ BK234
   go_wp2_with (first | ((with_reducible refine gate_callee (f := 54) rfl ?_); refine goesL_ (some 8) rfl rfl Try.func54 k_ rfl #[.agg #[.slice A0_0 l0_0.length c0_0, .slice A0_1 l0_1.length c0_1]] rfl (g2_) ?_; (with_reducible refine (impl_isBook.calls k _ _ l0_0 _ _ l0_1 false _ ?side1 ?side2 ?side3 ?side4 A5.out).mono ?_); (case side1 => exact uf4_ HR0_0); (case side2 => exact HC0_0.out); (case side3 => exact uf4_ HR0_1); (case side4 => exact HC0_1.out); rintro e w11 ⟨rfl, hb⟩; refine ⟨_, rfl, ?_⟩; replace BK234 := bb_ BK234 hb; replace HB := Aside0.mk (below_step (qz30_) hb); (try clear hb); (try clear hk hi)))
   go_meet
   case rel => exact ⟨_, (true), (g3_), H', ⟨g13_⟩, ⟨uf0_ BK234⟩, ⟨qz30_⟩⟩
 case rest =>
  clear HC3
  try clear c1
  try clear p2
  try clear c5
  try clear c6
  try clear hcz10_0
  try clear hcz10_1
  try clear hcz7_0
  try clear hcz7_1
  try clear hcz9_0
  try clear hcz9_1
  try clear hfz10_0
  try clear hfz10_1
  try clear hfz7_0
  try clear hfz7_1
  try clear hfz9_0
  try clear hfz9_1
  obtain ⟨kq, x17_2, rfl, HA, HJ2, BK234, HB⟩ := hcut
  cases kq with
  | zero => exact absurd HA.out (by simp [impl_arePays.j0])
  | succ kj2 =>
   have H := HA.out
   clear HA
   simp only [impl_arePays.j0] at H
   by_cases c12 : x17_2 = true
   ·subst c12
    replace H := ifp_ H
    obtain rfl := Option.some.inj H
    go_wp2
    go_ret
    exact ⟨g4_, qz30_⟩
   ·replace c12 := Bool.eq_false_iff.mpr c12
    subst c12
    replace H := ifn_ H
    obtain ⟨t236, A13, H⟩ := bind_ H
    have H' := Aside0.mk H
    clear H
    obtain ⟨hcz14_0, hcz14_1, hfz14_0, hfz14_1⟩ := blk2_ BK234
    go_wp2_with (first | ((with_reducible refine gate_callee (f := 91) rfl ?_); refine goesL_ (some 19) rfl rfl Try.func91 k_ rfl #[.agg #[.slice A0_0 l0_0.length c0_0, .slice A0_1 l0_1.length c0_1]] rfl (g2_) ?_; (with_reducible refine (impl_owes.calls kj2 _ _ l0_0 _ _ l0_1 t236 _ ?side1 ?side2 ?side3 ?side4 A13.out).mono ?_); (case side1 => exact uf4_ HR0_0); (case side2 => exact HC0_0.out); (case side3 => exact uf4_ HR0_1); (case side4 => exact HC0_1.out); rintro e w15 ⟨v237, rfl, ho0, hb⟩; refine ⟨_, rfl, ?_⟩; have HO238 := Aside0.mk (Kd.R_lower ho0 (below_size (qz30_))); replace BK234 := bb_ BK234 hb; replace HB := Aside0.mk (below_step (qz30_) hb); (try clear hb); (try clear hk hi); (try clear ho0); obtain ⟨Ao16, co16, eo16⟩ := Kd.R_slice HO238.out; subst eo16))
    go_loopg [21] kj2 (fun kq v21 w' => ∃ (x21_2 : Int), v21 = .int .i64 x21_2 ∧ Aside0 (impl_arePays.l0 kq l1 t236 (t236.length : Int) x21_2 = some r) ∧ Aside0 (kq ≤ kj2) ∧ Aside0 (Kd.R (Kd.int .i64) 3 w' w.heap.size (fun _ => True) (.slice Ao16 t236.length co16) t236) ∧ Aside0 (w'.heap[gb234]? = some (.cells #[(.slice A0_0 l0_0.length c0_0), (.slice A0_1 l0_1.length c0_1)] 26 (0, 0))) ∧ Aside0 (Below w.heap.size w w'))
    case atStart => exact ⟨(0), (g3_), H', ⟨Nat.le_refl _⟩, ⟨uf1_ HO238⟩, ⟨uf0_ BK234⟩, ⟨qz30_⟩⟩
    case round =>
     clear H'
     try clear c1
     try clear p2
     try clear c5
     try clear c6
     try clear c9
     try clear c12
     try clear hcz10_0
     try clear hcz10_1
     try clear hcz14_0
     try clear hcz14_1
     try clear hcz7_0
     try clear hcz7_1
     try clear hcz9_0
     try clear hcz9_1
     try clear hfz10_0
     try clear hfz10_1
     try clear hfz14_0
     try clear hfz14_1
     try clear hfz7_0
     try clear hfz7_1
     try clear hfz9_0
     try clear hfz9_1
     try clear p2
     obtain ⟨x21_2, rfl, HA, HK2, HO_19, BK234, HB⟩ := hrel
     cases gk with
     | zero => exact absurd HA.out (by simp [impl_arePays.l0])
     | succ k2 =>
      have H := HA.out
      clear HA
      simp only [impl_arePays.l0] at H
      by_cases c17 : x21_2 < (t236.length : Int)
      ·rw [if_pos c17] at H
       have c17b0 := decide_eq_true c17
       clear c17
       obtain ⟨c18, H⟩ := pos_ H
       have c18b0 := decide_eq_true c18
       clear c18
       obtain ⟨c19, H⟩ := pos_ H
       have c19b0 := decide_eq_true c19
       clear c19
       obtain ⟨c20, H⟩ := pos_ H
       have c20b0 := decide_eq_true c20
       clear c20
       obtain ⟨t241, A21, H⟩ := bind_ H
       by_cases c22 : t241 = true
       ·subst c22
        replace H := ifp_ H
        by_cases c23 : ((rd_T36 l1 x21_2).f0) < 0
        ·rw [if_pos c23] at H
         have c23b0 := decide_eq_true c23
         clear c23
         obtain rfl := Option.some.inj H
         have p239 : 0 ≤ (x21_2 : Int) := of_decide_eq_true (g1_)
         have q239 : x21_2 < (t236.length : Int) := of_decide_eq_true (g1_)
         obtain ⟨ad239, e239, hx239_0⟩ := Kd.at_int (Kd.R_reads' HO_19.out).2.2 x21_2 p239 q239
         cases e239
         replace p239 := eq_true p239
         replace q239 := eq_true q239
         try go_wp2
         replace HO_19 := Aside0.mk (Kd.R_drew HO_19.out)
         replace BK234 := Aside0.mk (blk_drew BK234.out)
         replace HB := Aside0.mk (below_drew1 HB.out)
         have p240 : 0 ≤ (x21_2 : Int) := of_decide_eq_true (g1_)
         have q240 : x21_2 < (l1.length : Int) := of_decide_eq_true (g1_)
         obtain ⟨ad240, e240, hx240_0, hx240_1⟩ := at_T36 HR1.out x21_2 p240 q240
         have hw240_1 := hx240_1
         have hw240_0 := hx240_0
         cases e240
         replace hx240_0 := cl_ HB hx240_0
         replace hx240_1 := cl_ HB hx240_1
         replace p240 := eq_true p240
         replace q240 := eq_true q240
         have p242 : 0 ≤ (x21_2 : Int) := of_decide_eq_true (g1_)
         have q242 : x21_2 < (l1.length : Int) := of_decide_eq_true (g1_)
         obtain ⟨ad242, e242, hx242_0, hx242_1⟩ := at_T36 HR1.out x21_2 p242 q242
         have hw242_1 := hx242_1
         have hw242_0 := hx242_0
         obtain rfl : ad240 = ad242 := (by injection e242)
         replace hx242_0 := cl_ HB hx242_0
         replace hx242_1 := cl_ HB hx242_1
         replace p242 := eq_true p242
         replace q242 := eq_true q242
         refine start_ (n := 24) (S := fun w' => w'.cell? (ad240.add ((x21_2).toNat * 2)) = some (.int .i64 ((rd_T36 l1 x21_2).f0)) ∧ w'.cell? ⟨(ad240.add ((x21_2).toNat * 2)).block, (ad240.add ((x21_2).toNat * 2)).off + 1, none⟩ = some (.int .i64 ((rd_T36 l1 x21_2).f1)) ∧ w'.cell? (ad240.add ((x21_2).toNat * 2)) = some (.int .i64 ((rd_T36 l1 x21_2).f0)) ∧ w'.cell? ⟨(ad240.add ((x21_2).toNat * 2)).block, (ad240.add ((x21_2).toNat * 2)).off + 1, none⟩ = some (.int .i64 ((rd_T36 l1 x21_2).f1))) (ds := []) (tl_ 24 0) (g0_) rfl (g0_) ⟨((cl_ HB hw240_0).trans rfl), ((cl_ HB hw240_1).trans rfl), ((cl_ HB hw242_0).trans rfl), ((cl_ HB hw242_1).trans rfl)⟩ (fun hHeld => ?_); refine with_tabW impl_arePays.tab6 impl_arePays.bits6 (fun HT_ HW_ => ?_)
         generalize wr.drew = w24 at HO_19 BK234 HB hx240_0 hx240_1 hx242_0 hx242_1 hHeld ⊢
         refine pw_ 0 26 (tl_ 24 1) rfl rfl ?_
         refine pw_ 1 27 (tl_ 24 3) rfl rfl ?_
         refine pw_ 2 28 (tl_ 24 7) rfl rfl ?_
         refine tk3_ 3 29 (tl_ 24 15) rfl rfl hHeld ?_
         refine one_ (i := 4) (N := some 30) (tl_ 24 31) rfl rfl (one_of HT_.out (g0_)) (by decide) (fun K hK => ?_)
         refine goes_ Try.func77 (g0_) rfl #[.agg #[.int .i64 ((rd_T36 l1 x21_2).f0), .int .i64 ((rd_T36 l1 x21_2).f1)]] (by rfl) rfl rfl (g2_) ?_
         with_reducible refine (impl_isFrac.calls k2 ((rd_T36 l1 x21_2).f0) ((rd_T36 l1 x21_2).f1) true _ A21.out).mono ?_
         rintro e w25 ⟨rfl, hb⟩
         refine ⟨_, rfl, ?_⟩
         replace HO_19 := Aside0.mk (Kd.R_below (uf1_ HO_19) hb)
         replace BK234 := bb_ BK234 hb
         replace HB := Aside0.mk (below_step (qz30_) hb)
         (try clear hb)
         (try clear hk hi)
         refine hK.out _ _ ⟨((cl_ HB hw240_0).trans rfl), ((cl_ HB hw240_1).trans rfl), ((cl_ HB hw242_0).trans rfl), ((cl_ HB hw242_1).trans rfl)⟩ (fun hHeld => ?_)
         clear hK K
         refine nm_ ?_
         refine pw_ 5 31 (tl_ 24 63) rfl rfl ?_
         refine pw_ 6 32 (tl_ 24 127) rfl rfl ?_
         refine pw_ 7 33 (tl_ 24 255) rfl rfl ?_
         refine pw_ 8 34 (tl_ 24 511) rfl rfl ?_
         refine pw_ 9 35 (tl_ 24 1023) rfl rfl ?_
         refine pw_ 10 36 (tl_ 24 2047) rfl rfl ?_
         refine tk3_ 11 37 (tl_ 24 4095) rfl rfl hHeld ?_
         refine pw_ 12 38 (tl_ 24 8191) rfl rfl ?_
         refine pw_ 13 39 (tl_ 24 16383) rfl rfl ?_
         refine pw_ 14 40 (tl_ 24 32767) rfl rfl ?_
         refine pu_ 15 41 (tl_ 24 65535) rfl rfl ?_
         refine pu_ 16 42 (tl_ 24 131071) rfl rfl ?_
         refine pu_ 17 43 (tl_ 24 262143) rfl rfl ?_
         refine pu_ 18 44 (tl_ 24 524287) rfl rfl ?_
         refine pu_ 19 45 (tl_ 24 1048575) rfl rfl ?_
         refine pu_ 20 46 (tl_ 24 2097151) rfl rfl ?_
         refine pu_ 21 47 (tl_ 24 4194303) rfl rfl ?_
         refine pu_ 22 48 (tl_ 24 8388607) rfl rfl ?_
         refine pw_ 23 49 (tl_ 24 16777215) rfl rfl ?_
         refine done_ (done_of HT_.out (g0_)) ?_
         try go_wp2
         go_ret
         exact ⟨g4_, qz30_⟩
        ·rw [if_neg c23] at H
         have c23b0 := decide_eq_false c23
         clear c23
         replace H := Option.bind_eq_some_iff.mp H
         obtain ⟨⟨t244, t245⟩, A260, H⟩ := H
         replace H : ((impl_compare.f ((rd_T36 l1 x21_2).f0) ((rd_T36 l1 x21_2).f1) t244 t245).bind fun t246 => (if t246 > 0 then (some false) else (impl_arePays.l0 k2 l1 t236 (t236.length : Int) (wrap64 (x21_2 + 1))))) = some r := H
         have A26 := Aside0.mk A260
         clear A260
         obtain ⟨t246, A27, H⟩ := bind_ H
         by_cases c28 : t246 > 0
         ·rw [if_pos c28] at H
          have c28b0 := decide_eq_true c28
          clear c28
          obtain rfl := Option.some.inj H
          have p239 : 0 ≤ (x21_2 : Int) := of_decide_eq_true (g1_)
          have q239 : x21_2 < (t236.length : Int) := of_decide_eq_true (g1_)
          obtain ⟨ad239, e239, hx239_0⟩ := Kd.at_int (Kd.R_reads' HO_19.out).2.2 x21_2 p239 q239
          cases e239
          replace p239 := eq_true p239
          replace q239 := eq_true q239
          try go_wp2
          replace HO_19 := Aside0.mk (Kd.R_drew HO_19.out)
          replace BK234 := Aside0.mk (blk_drew BK234.out)
          replace HB := Aside0.mk (below_drew1 HB.out)
          have p240 : 0 ≤ (x21_2 : Int) := of_decide_eq_true (g1_)
          have q240 : x21_2 < (l1.length : Int) := of_decide_eq_true (g1_)
          obtain ⟨ad240, e240, hx240_0, hx240_1⟩ := at_T36 HR1.out x21_2 p240 q240
          have hw240_1 := hx240_1
          have hw240_0 := hx240_0
          cases e240
          replace hx240_0 := cl_ HB hx240_0
          replace hx240_1 := cl_ HB hx240_1
          replace p240 := eq_true p240
          replace q240 := eq_true q240
          have p242 : 0 ≤ (x21_2 : Int) := of_decide_eq_true (g1_)
          have q242 : x21_2 < (l1.length : Int) := of_decide_eq_true (g1_)
          obtain ⟨ad242, e242, hx242_0, hx242_1⟩ := at_T36 HR1.out x21_2 p242 q242
          have hw242_1 := hx242_1
          have hw242_0 := hx242_0
          obtain rfl : ad240 = ad242 := (by injection e242)
          replace hx242_0 := cl_ HB hx242_0
          replace hx242_1 := cl_ HB hx242_1
          replace p242 := eq_true p242
          replace q242 := eq_true q242
          have p243 : 0 ≤ (x21_2 : Int) := of_decide_eq_true (g1_)
          have q243 : x21_2 < (l1.length : Int) := of_decide_eq_true (g1_)
          obtain ⟨ad243, e243, hx243_0, hx243_1⟩ := at_T36 HR1.out x21_2 p243 q243
          have hw243_1 := hx243_1
          have hw243_0 := hx243_0
          obtain rfl : ad240 = ad243 := (by injection e243)
          replace hx243_0 := cl_ HB hx243_0
          replace hx243_1 := cl_ HB hx243_1
          replace p243 := eq_true p243
          replace q243 := eq_true q243
          refine start_ (n := 24) (S := fun w' => w'.cell? (ad240.add ((x21_2).toNat * 2)) = some (.int .i64 ((rd_T36 l1 x21_2).f0)) ∧ w'.cell? ⟨(ad240.add ((x21_2).toNat * 2)).block, (ad240.add ((x21_2).toNat * 2)).off + 1, none⟩ = some (.int .i64 ((rd_T36 l1 x21_2).f1)) ∧ w'.cell? (ad240.add ((x21_2).toNat * 2)) = some (.int .i64 ((rd_T36 l1 x21_2).f0)) ∧ w'.cell? ⟨(ad240.add ((x21_2).toNat * 2)).block, (ad240.add ((x21_2).toNat * 2)).off + 1, none⟩ = some (.int .i64 ((rd_T36 l1 x21_2).f1)) ∧ w'.cell? (ad240.add ((x21_2).toNat * 2)) = some (.int .i64 ((rd_T36 l1 x21_2).f0)) ∧ w'.cell? ⟨(ad240.add ((x21_2).toNat * 2)).block, (ad240.add ((x21_2).toNat * 2)).off + 1, none⟩ = some (.int .i64 ((rd_T36 l1 x21_2).f1))) (ds := []) (tl_ 24 0) (g0_) rfl (g0_) ⟨((cl_ HB hw240_0).trans rfl), ((cl_ HB hw240_1).trans rfl), ((cl_ HB hw242_0).trans rfl), ((cl_ HB hw242_1).trans rfl), ((cl_ HB hw243_0).trans rfl), ((cl_ HB hw243_1).trans rfl)⟩ (fun hHeld => ?_); refine with_tabW impl_arePays.tab6 impl_arePays.bits6 (fun HT_ HW_ => ?_)
          generalize wr.drew = w29 at HO_19 BK234 HB hx240_0 hx240_1 hx242_0 hx242_1 hx243_0 hx243_1 hHeld ⊢
          refine pw_ 0 26 (tl_ 24 1) rfl rfl ?_
          refine pw_ 1 27 (tl_ 24 3) rfl rfl ?_
          refine pw_ 2 28 (tl_ 24 7) rfl rfl ?_
          refine tk2_ 3 29 (tl_ 24 15) rfl rfl hHeld ?_
          refine one_ (i := 4) (N := some 30) (tl_ 24 31) rfl rfl (one_of HT_.out (g0_)) (by decide) (fun K hK => ?_)
          refine goes_ Try.func77 (g0_) rfl #[.agg #[.int .i64 ((rd_T36 l1 x21_2).f0), .int .i64 ((rd_T36 l1 x21_2).f1)]] (by rfl) rfl rfl (g2_) ?_
          with_reducible refine (impl_isFrac.calls k2 ((rd_T36 l1 x21_2).f0) ((rd_T36 l1 x21_2).f1) true _ A21.out).mono ?_
          rintro e w30 ⟨rfl, hb⟩
          refine ⟨_, rfl, ?_⟩
          replace HO_19 := Aside0.mk (Kd.R_below (uf1_ HO_19) hb)
          replace BK234 := bb_ BK234 hb
          replace HB := Aside0.mk (below_step (qz30_) hb)
          (try clear hb)
          (try clear hk hi)
          refine hK.out _ _ ⟨((cl_ HB hw240_0).trans rfl), ((cl_ HB hw240_1).trans rfl), ((cl_ HB hw242_0).trans rfl), ((cl_ HB hw242_1).trans rfl), ((cl_ HB hw243_0).trans rfl), ((cl_ HB hw243_1).trans rfl)⟩ (fun hHeld => ?_)
          clear hK K
          refine nm_ ?_
          refine pw_ 5 31 (tl_ 24 63) rfl rfl ?_
          refine pw_ 6 32 (tl_ 24 127) rfl rfl ?_
          refine pw_ 7 33 (tl_ 24 255) rfl rfl ?_
          refine pw_ 8 34 (tl_ 24 511) rfl rfl ?_
          refine pw_ 9 35 (tl_ 24 1023) rfl rfl ?_
          refine pw_ 10 36 (tl_ 24 2047) rfl rfl ?_
          refine tk2_ 11 37 (tl_ 24 4095) rfl rfl hHeld ?_
          refine pw_ 12 38 (tl_ 24 8191) rfl rfl ?_
          refine pw_ 13 39 (tl_ 24 16383) rfl rfl ?_
          refine pw_ 14 40 (tl_ 24 32767) rfl rfl ?_
          refine pw_ 15 41 (tl_ 24 65535) rfl rfl ?_
          refine pw_ 16 42 (tl_ 24 131071) rfl rfl ?_
          refine pw_ 17 43 (tl_ 24 262143) rfl rfl ?_
          refine pw_ 19 45 (tl_ 24 786431) rfl rfl ?_
          refine tk2_ 18 44 (tl_ 24 1048575) rfl rfl hHeld ?_
          refine one_ (i := 20) (N := some 46) (tl_ 24 2097151) rfl rfl (one_of HT_.out (g0_)) (by decide) (fun K hK => ?_)
          refine goes_ Try.func89 (g0_) rfl #[.int .i64 (rd t236 x21_2)] (by rfl) rfl rfl (g2_) ?_
          with_reducible refine (impl_whole.calls (rd t236 x21_2) t244 t245 _ A26.out).mono ?_
          rintro e w31 ⟨rfl, hb⟩
          refine ⟨_, rfl, ?_⟩
          replace HO_19 := Aside0.mk (Kd.R_below (uf1_ HO_19) hb)
          replace BK234 := bb_ BK234 hb
          replace HB := Aside0.mk (below_step (qz30_) hb)
          (try clear hb)
          (try clear hk hi)
          refine hK.out _ _ ⟨((cl_ HB hw240_0).trans rfl), ((cl_ HB hw240_1).trans rfl), ((cl_ HB hw242_0).trans rfl), ((cl_ HB hw242_1).trans rfl), ((cl_ HB hw243_0).trans rfl), ((cl_ HB hw243_1).trans rfl)⟩ (fun hHeld => ?_)
          clear hK K
          refine nm_ ?_
          refine one_ (i := 21) (N := some 47) (tl_ 24 4194303) rfl rfl (one_of HT_.out (g0_)) (by decide) (fun K hK => ?_)
          refine goes_ Try.func78 (g0_) rfl #[.agg #[.int .i64 ((rd_T36 l1 x21_2).f0), .int .i64 ((rd_T36 l1 x21_2).f1)], .agg #[.int .i64 t244, .int .i64 t245]] (by rfl) rfl rfl (g2_) ?_
          with_reducible refine (impl_compare.calls ((rd_T36 l1 x21_2).f0) ((rd_T36 l1 x21_2).f1) t244 t245 t246 _ A27.out).mono ?_
          rintro e w32 ⟨rfl, hb⟩
          refine ⟨_, rfl, ?_⟩
          replace HO_19 := Aside0.mk (Kd.R_below (uf1_ HO_19) hb)
          replace BK234 := bb_ BK234 hb
          replace HB := Aside0.mk (below_step (qz30_) hb)
          (try clear hb)
          (try clear hk hi)
          refine hK.out _ _ ⟨((cl_ HB hw240_0).trans rfl), ((cl_ HB hw240_1).trans rfl), ((cl_ HB hw242_0).trans rfl), ((cl_ HB hw242_1).trans rfl), ((cl_ HB hw243_0).trans rfl), ((cl_ HB hw243_1).trans rfl)⟩ (fun hHeld => ?_)
          clear hK K
          refine nm_ ?_
          refine pw_ 22 48 (tl_ 24 8388607) rfl rfl ?_
          refine pw_ 23 49 (tl_ 24 16777215) rfl rfl ?_
          refine done_ (done_of HT_.out (g0_)) ?_
          try go_wp2
          go_ret
          exact ⟨g4_, qz30_⟩
         ·rw [if_neg c28] at H
          have c28b0 := decide_eq_false c28
          clear c28
          have H' := Aside0.mk H
          clear H
          have p239 : 0 ≤ (x21_2 : Int) := of_decide_eq_true (g1_)
          have q239 : x21_2 < (t236.length : Int) := of_decide_eq_true (g1_)
          obtain ⟨ad239, e239, hx239_0⟩ := Kd.at_int (Kd.R_reads' HO_19.out).2.2 x21_2 p239 q239
          cases e239
          replace p239 := eq_true p239
          replace q239 := eq_true q239
          try go_wp2
          replace HO_19 := Aside0.mk (Kd.R_drew HO_19.out)
          replace BK234 := Aside0.mk (blk_drew BK234.out)
          replace HB := Aside0.mk (below_drew1 HB.out)
          have p240 : 0 ≤ (x21_2 : Int) := of_decide_eq_true (g1_)
          have q240 : x21_2 < (l1.length : Int) := of_decide_eq_true (g1_)
          obtain ⟨ad240, e240, hx240_0, hx240_1⟩ := at_T36 HR1.out x21_2 p240 q240
          have hw240_1 := hx240_1
          have hw240_0 := hx240_0
          cases e240
          replace hx240_0 := cl_ HB hx240_0
          replace hx240_1 := cl_ HB hx240_1
          replace p240 := eq_true p240
          replace q240 := eq_true q240
          have p242 : 0 ≤ (x21_2 : Int) := of_decide_eq_true (g1_)
          have q242 : x21_2 < (l1.length : Int) := of_decide_eq_true (g1_)
          obtain ⟨ad242, e242, hx242_0, hx242_1⟩ := at_T36 HR1.out x21_2 p242 q242
          have hw242_1 := hx242_1
          have hw242_0 := hx242_0
          obtain rfl : ad240 = ad242 := (by injection e242)
          replace hx242_0 := cl_ HB hx242_0
          replace hx242_1 := cl_ HB hx242_1
          replace p242 := eq_true p242
          replace q242 := eq_true q242
          have p243 : 0 ≤ (x21_2 : Int) := of_decide_eq_true (g1_)
          have q243 : x21_2 < (l1.length : Int) := of_decide_eq_true (g1_)
          obtain ⟨ad243, e243, hx243_0, hx243_1⟩ := at_T36 HR1.out x21_2 p243 q243
          have hw243_1 := hx243_1
          have hw243_0 := hx243_0
          obtain rfl : ad240 = ad243 := (by injection e243)
          replace hx243_0 := cl_ HB hx243_0
          replace hx243_1 := cl_ HB hx243_1
          replace p243 := eq_true p243
          replace q243 := eq_true q243
          refine start_ (n := 24) (S := fun w' => w'.cell? (ad240.add ((x21_2).toNat * 2)) = some (.int .i64 ((rd_T36 l1 x21_2).f0)) ∧ w'.cell? ⟨(ad240.add ((x21_2).toNat * 2)).block, (ad240.add ((x21_2).toNat * 2)).off + 1, none⟩ = some (.int .i64 ((rd_T36 l1 x21_2).f1)) ∧ w'.cell? (ad240.add ((x21_2).toNat * 2)) = some (.int .i64 ((rd_T36 l1 x21_2).f0)) ∧ w'.cell? ⟨(ad240.add ((x21_2).toNat * 2)).block, (ad240.add ((x21_2).toNat * 2)).off + 1, none⟩ = some (.int .i64 ((rd_T36 l1 x21_2).f1)) ∧ w'.cell? (ad240.add ((x21_2).toNat * 2)) = some (.int .i64 ((rd_T36 l1 x21_2).f0)) ∧ w'.cell? ⟨(ad240.add ((x21_2).toNat * 2)).block, (ad240.add ((x21_2).toNat * 2)).off + 1, none⟩ = some (.int .i64 ((rd_T36 l1 x21_2).f1))) (ds := []) (tl_ 24 0) (g0_) rfl (g0_) ⟨((cl_ HB hw240_0).trans rfl), ((cl_ HB hw240_1).trans rfl), ((cl_ HB hw242_0).trans rfl), ((cl_ HB hw242_1).trans rfl), ((cl_ HB hw243_0).trans rfl), ((cl_ HB hw243_1).trans rfl)⟩ (fun hHeld => ?_); refine with_tabW impl_arePays.tab6 impl_arePays.bits6 (fun HT_ HW_ => ?_)
          generalize wr.drew = w33 at HO_19 BK234 HB hx240_0 hx240_1 hx242_0 hx242_1 hx243_0 hx243_1 hHeld ⊢
          refine pw_ 0 26 (tl_ 24 1) rfl rfl ?_
          refine pw_ 1 27 (tl_ 24 3) rfl rfl ?_
          refine pw_ 2 28 (tl_ 24 7) rfl rfl ?_
          refine tk2_ 3 29 (tl_ 24 15) rfl rfl hHeld ?_
          refine one_ (i := 4) (N := some 30) (tl_ 24 31) rfl rfl (one_of HT_.out (g0_)) (by decide) (fun K hK => ?_)
          refine goes_ Try.func77 (g0_) rfl #[.agg #[.int .i64 ((rd_T36 l1 x21_2).f0), .int .i64 ((rd_T36 l1 x21_2).f1)]] (by rfl) rfl rfl (g2_) ?_
          with_reducible refine (impl_isFrac.calls k2 ((rd_T36 l1 x21_2).f0) ((rd_T36 l1 x21_2).f1) true _ A21.out).mono ?_
          rintro e w34 ⟨rfl, hb⟩
          refine ⟨_, rfl, ?_⟩
          replace HO_19 := Aside0.mk (Kd.R_below (uf1_ HO_19) hb)
          replace BK234 := bb_ BK234 hb
          replace HB := Aside0.mk (below_step (qz30_) hb)
          (try clear hb)
          (try clear hk hi)
          refine hK.out _ _ ⟨((cl_ HB hw240_0).trans rfl), ((cl_ HB hw240_1).trans rfl), ((cl_ HB hw242_0).trans rfl), ((cl_ HB hw242_1).trans rfl), ((cl_ HB hw243_0).trans rfl), ((cl_ HB hw243_1).trans rfl)⟩ (fun hHeld => ?_)
          clear hK K
          refine nm_ ?_
          refine pw_ 5 31 (tl_ 24 63) rfl rfl ?_
          refine pw_ 6 32 (tl_ 24 127) rfl rfl ?_
          refine pw_ 7 33 (tl_ 24 255) rfl rfl ?_
          refine pw_ 8 34 (tl_ 24 511) rfl rfl ?_
          refine pw_ 9 35 (tl_ 24 1023) rfl rfl ?_
          refine pw_ 10 36 (tl_ 24 2047) rfl rfl ?_
          refine tk2_ 11 37 (tl_ 24 4095) rfl rfl hHeld ?_
          refine pw_ 12 38 (tl_ 24 8191) rfl rfl ?_
          refine pw_ 13 39 (tl_ 24 16383) rfl rfl ?_
          refine pw_ 14 40 (tl_ 24 32767) rfl rfl ?_
          refine pw_ 15 41 (tl_ 24 65535) rfl rfl ?_
          refine pw_ 16 42 (tl_ 24 131071) rfl rfl ?_
          refine pw_ 17 43 (tl_ 24 262143) rfl rfl ?_
          refine pw_ 19 45 (tl_ 24 786431) rfl rfl ?_
          refine tk2_ 18 44 (tl_ 24 1048575) rfl rfl hHeld ?_
          refine one_ (i := 20) (N := some 46) (tl_ 24 2097151) rfl rfl (one_of HT_.out (g0_)) (by decide) (fun K hK => ?_)
          refine goes_ Try.func89 (g0_) rfl #[.int .i64 (rd t236 x21_2)] (by rfl) rfl rfl (g2_) ?_
          with_reducible refine (impl_whole.calls (rd t236 x21_2) t244 t245 _ A26.out).mono ?_
          rintro e w35 ⟨rfl, hb⟩
          refine ⟨_, rfl, ?_⟩
          replace HO_19 := Aside0.mk (Kd.R_below (uf1_ HO_19) hb)
          replace BK234 := bb_ BK234 hb
          replace HB := Aside0.mk (below_step (qz30_) hb)
          (try clear hb)
          (try clear hk hi)
          refine hK.out _ _ ⟨((cl_ HB hw240_0).trans rfl), ((cl_ HB hw240_1).trans rfl), ((cl_ HB hw242_0).trans rfl), ((cl_ HB hw242_1).trans rfl), ((cl_ HB hw243_0).trans rfl), ((cl_ HB hw243_1).trans rfl)⟩ (fun hHeld => ?_)
          clear hK K
          refine nm_ ?_
          refine one_ (i := 21) (N := some 47) (tl_ 24 4194303) rfl rfl (one_of HT_.out (g0_)) (by decide) (fun K hK => ?_)
          refine goes_ Try.func78 (g0_) rfl #[.agg #[.int .i64 ((rd_T36 l1 x21_2).f0), .int .i64 ((rd_T36 l1 x21_2).f1)], .agg #[.int .i64 t244, .int .i64 t245]] (by rfl) rfl rfl (g2_) ?_
          with_reducible refine (impl_compare.calls ((rd_T36 l1 x21_2).f0) ((rd_T36 l1 x21_2).f1) t244 t245 t246 _ A27.out).mono ?_
          rintro e w36 ⟨rfl, hb⟩
          refine ⟨_, rfl, ?_⟩
          replace HO_19 := Aside0.mk (Kd.R_below (uf1_ HO_19) hb)
          replace BK234 := bb_ BK234 hb
          replace HB := Aside0.mk (below_step (qz30_) hb)
          (try clear hb)
          (try clear hk hi)
          refine hK.out _ _ ⟨((cl_ HB hw240_0).trans rfl), ((cl_ HB hw240_1).trans rfl), ((cl_ HB hw242_0).trans rfl), ((cl_ HB hw242_1).trans rfl), ((cl_ HB hw243_0).trans rfl), ((cl_ HB hw243_1).trans rfl)⟩ (fun hHeld => ?_)
          clear hK K
          refine nm_ ?_
          refine pw_ 22 48 (tl_ 24 8388607) rfl rfl ?_
          refine pw_ 23 49 (tl_ 24 16777215) rfl rfl ?_
          refine done_ (done_of HT_.out (g0_)) ?_
          try go_wp2
          go_roundg k2
          case measure => have := HJ2.out; have := HK2.out; omega
          case rel => exact ⟨(wrap64 (x21_2 + 1)), (g3_), H', ⟨by have := HJ2.out; have := HK2.out; omega⟩, ⟨uf1_ HO_19⟩, ⟨uf0_ BK234⟩, ⟨qz30_⟩⟩
       ·replace c22 := Bool.eq_false_iff.mpr c22
        subst c22
        replace H := ifn_ H
        obtain rfl := Option.some.inj H
        have p239 : 0 ≤ (x21_2 : Int) := of_decide_eq_true (g1_)
        have q239 : x21_2 < (t236.length : Int) := of_decide_eq_true (g1_)
        obtain ⟨ad239, e239, hx239_0⟩ := Kd.at_int (Kd.R_reads' HO_19.out).2.2 x21_2 p239 q239
        cases e239
        replace p239 := eq_true p239
        replace q239 := eq_true q239
        try go_wp2
        replace HO_19 := Aside0.mk (Kd.R_drew HO_19.out)
        replace BK234 := Aside0.mk (blk_drew BK234.out)
        replace HB := Aside0.mk (below_drew1 HB.out)
        have p240 : 0 ≤ (x21_2 : Int) := of_decide_eq_true (g1_)
        have q240 : x21_2 < (l1.length : Int) := of_decide_eq_true (g1_)
        obtain ⟨ad240, e240, hx240_0, hx240_1⟩ := at_T36 HR1.out x21_2 p240 q240
        have hw240_1 := hx240_1
        have hw240_0 := hx240_0
        cases e240
        replace hx240_0 := cl_ HB hx240_0
        replace hx240_1 := cl_ HB hx240_1
        replace p240 := eq_true p240
        replace q240 := eq_true q240
        refine start_ (n := 24) (S := fun w' => w'.cell? (ad240.add ((x21_2).toNat * 2)) = some (.int .i64 ((rd_T36 l1 x21_2).f0)) ∧ w'.cell? ⟨(ad240.add ((x21_2).toNat * 2)).block, (ad240.add ((x21_2).toNat * 2)).off + 1, none⟩ = some (.int .i64 ((rd_T36 l1 x21_2).f1))) (ds := []) (tl_ 24 0) (g0_) rfl (g0_) ⟨((cl_ HB hw240_0).trans rfl), ((cl_ HB hw240_1).trans rfl)⟩ (fun hHeld => ?_); refine with_tabW impl_arePays.tab6 impl_arePays.bits6 (fun HT_ HW_ => ?_)
        generalize wr.drew = w37 at HO_19 BK234 HB hx240_0 hx240_1 hHeld ⊢
        refine pw_ 0 26 (tl_ 24 1) rfl rfl ?_
        refine pw_ 1 27 (tl_ 24 3) rfl rfl ?_
        refine pw_ 2 28 (tl_ 24 7) rfl rfl ?_
        refine tk0_ 3 29 (tl_ 24 15) rfl rfl hHeld ?_
        refine one_ (i := 4) (N := some 30) (tl_ 24 31) rfl rfl (one_of HT_.out (g0_)) (by decide) (fun K hK => ?_)
        refine goes_ Try.func77 (g0_) rfl #[.agg #[.int .i64 ((rd_T36 l1 x21_2).f0), .int .i64 ((rd_T36 l1 x21_2).f1)]] (by rfl) rfl rfl (g2_) ?_
        with_reducible refine (impl_isFrac.calls k2 ((rd_T36 l1 x21_2).f0) ((rd_T36 l1 x21_2).f1) false _ A21.out).mono ?_
        rintro e w38 ⟨rfl, hb⟩
        refine ⟨_, rfl, ?_⟩
        replace HO_19 := Aside0.mk (Kd.R_below (uf1_ HO_19) hb)
        replace BK234 := bb_ BK234 hb
        replace HB := Aside0.mk (below_step (qz30_) hb)
        (try clear hb)
        (try clear hk hi)
        refine hK.out _ _ ⟨((cl_ HB hw240_0).trans rfl), ((cl_ HB hw240_1).trans rfl)⟩ (fun hHeld => ?_)
        clear hK K
        refine nm_ ?_
        refine pw_ 5 31 (tl_ 24 63) rfl rfl ?_
        refine pw_ 6 32 (tl_ 24 127) rfl rfl ?_
        refine pu_ 7 33 (tl_ 24 255) rfl rfl ?_
        refine pu_ 8 34 (tl_ 24 511) rfl rfl ?_
        refine pu_ 9 35 (tl_ 24 1023) rfl rfl ?_
        refine pu_ 10 36 (tl_ 24 2047) rfl rfl ?_
        refine pu_ 11 37 (tl_ 24 4095) rfl rfl ?_
        refine pu_ 12 38 (tl_ 24 8191) rfl rfl ?_
        refine pw_ 13 39 (tl_ 24 16383) rfl rfl ?_
        refine pw_ 14 40 (tl_ 24 32767) rfl rfl ?_
        refine pu_ 15 41 (tl_ 24 65535) rfl rfl ?_
        refine pu_ 16 42 (tl_ 24 131071) rfl rfl ?_
        refine pu_ 17 43 (tl_ 24 262143) rfl rfl ?_
        refine pu_ 18 44 (tl_ 24 524287) rfl rfl ?_
        refine pu_ 19 45 (tl_ 24 1048575) rfl rfl ?_
        refine pu_ 20 46 (tl_ 24 2097151) rfl rfl ?_
        refine pu_ 21 47 (tl_ 24 4194303) rfl rfl ?_
        refine pu_ 22 48 (tl_ 24 8388607) rfl rfl ?_
        refine pw_ 23 49 (tl_ 24 16777215) rfl rfl ?_
        refine done_ (done_of HT_.out (g0_)) ?_
        try go_wp2
        go_ret
        exact ⟨g4_, qz30_⟩
      ·rw [if_neg c17] at H
       have c17b0 := decide_eq_false c17
       clear c17
       obtain rfl := Option.some.inj H
       go_wp2
       go_ret
       exact ⟨g4_, qz30_⟩
def impl_PaysOk.f (k : Nat) (l0_0 : List Int) (l0_1 : List (List Int)) (l1 : List (S36)) : Option (Bool) := (impl_arePays.f k l0_0 l0_1 l1).bind fun t394 => (some t394)
theorem impl_PaysOk.mq {p : Prop} (h : p := by
 repeat' first
 | (with_reducible exact impl_arePays.mono _ _ _ _)
 | (with_reducible exact LeO.refl _)
 | (with_reducible exact LeO.none _)
 | (with_reducible refine LeO.ite ?_ ?_)
 | (with_reducible refine LeO.bind ?_ (fun _ => ?_))
 | exact impl_arePays.mono _ _ _ _
 | exact LeO.none _
 | refine LeO.ite ?_ ?_
 | refine LeO.bind ?_ (fun _ => ?_)) : p := h
theorem impl_PaysOk.mono : ∀ a0 a1 a2 k, LeO (impl_PaysOk.f k a0 a1 a2) (impl_PaysOk.f (k + 1) a0 a1 a2) := by
 intro a0 a1 a2 k
 unfold impl_PaysOk.f
 exact impl_PaysOk.mq
theorem qz31_ {p : Prop} (h : p := by repeat (first | (with_reducible first | exact HB.out | apply below_alloc | apply pw_below_drewN | apply below_drew1 | refine below_set ?_ GE393.out) | exact HB.out)) : p := h
set_option maxHeartbeats 8000000 in
set_option maxRecDepth 100000 in
theorem impl_PaysOk.calls (k : Nat) (A0_0 : Option Addr) (c0_0 : Nat) (l0_0 : List Int) (A0_1 : Option Addr) (c0_1 : Nat) (l0_1 : List (List Int)) (A1 : Option Addr) (c1 : Nat) (l1 : List (S36)) (r : Bool) (w : World) (hr0_0 : Kd.C (Kd.int .i64) w A0_0 l0_0.length l0_0) (hc0_0 : l0_0.length ≤ c0_0) (hr0_1 : Kd.C (Kd.slice 3 (Kd.int .i64)) w A0_1 l0_1.length l0_1) (hc0_1 : l0_1.length ≤ c0_1) (hr1 : Kd.C k36 w A1 l1.length l1) (hc1 : l1.length ≤ c1) (h : impl_PaysOk.f k l0_0 l0_1 l1 = some r) :
  Calls Try.prog 24 #[.agg #[.slice A0_0 l0_0.length c0_0, .slice A0_1 l0_1.length c0_1], .slice A1 l1.length c1] w fun e w' => e = .returned (.bool r) ∧ Below w.heap.size w w' := by
 have hu26 := Try.underlying26
 have HR0_0 := Aside0.mk hr0_0
 have HC0_0 := Aside0.mk hc0_0
 clear hr0_0 hc0_0
 have HR0_1 := Aside0.mk hr0_1
 have HC0_1 := Aside0.mk hc0_1
 clear hr0_1 hc0_1
 have HR1 := Aside0.mk hr1
 have HC1 := Aside0.mk hc1
 clear hr1 hc1
 have HB := Aside0.mk (Below.refl w.heap.size w)
 have H : ((impl_arePays.f k l0_0 l0_1 l1).bind fun t394 => (some t394)) = some r := h
 clear h
 obtain ⟨t394, A3, H⟩ := bind_ H
 obtain rfl := Option.some.inj H
 go_enter Try.func24, Try.ntmps24
 go_wp2_with (first | ((with_reducible refine gate_dst (N := 2) rfl ?_); refine bx_ (N := 2) #[.slice A0_0 l0_0.length c0_0, .slice A0_1 l0_1.length c0_1] 26 ?_; intro gb393 hg w4 hbox hb; have BK393 := Aside0.mk (hbox); have GW393 := Aside0.mk ((by rw [hg]; exact (below_size (qz31_)) : w.heap.size ≤ gb393)); have GE393 := Aside0.mk ((by rw [hg]; exact (below_size (qz31_)) : w.heap.size ≤ gb393)); replace HB := Aside0.mk (below_step (qz31_) hb); clear hb hbox hg; obtain ⟨hcz5_0, hcz5_1, hfz5_0, hfz5_1⟩ := blk2_ BK393) | ((with_reducible refine gate_callee (f := 58) rfl ?_); refine goesL_ (some 7) rfl rfl Try.func58 k_ rfl #[.agg #[.slice A0_0 l0_0.length c0_0, .slice A0_1 l0_1.length c0_1], .slice A1 l1.length c1] rfl (g2_) ?_; (with_reducible refine (impl_arePays.calls k _ _ l0_0 _ _ l0_1 _ _ l1 t394 _ ?side1 ?side2 ?side3 ?side4 ?side5 ?side6 A3.out).mono ?_); (case side1 => exact uf4_ HR0_0); (case side2 => exact HC0_0.out); (case side3 => exact uf4_ HR0_1); (case side4 => exact HC0_1.out); (case side5 => exact uf4_ HR1); (case side6 => exact HC1.out); rintro e w6 ⟨rfl, hb⟩; refine ⟨_, rfl, ?_⟩; replace BK393 := bb_ BK393 hb; replace HB := Aside0.mk (below_step (qz31_) hb); (try clear hb); (try clear hk hi)))
 go_ret
 exact ⟨g4_, qz31_⟩
def impl_allPaid.l0 : Nat → List (S36) → List Int → Int → Int → Option ((List (S36)))
 | 0, _, _, _, _ => none
 | k + 1, x3, x8, x9, x10 => if x10 < x9 then (if 0 ≤ x10 then (if x10 < (x8.length : Int) then ((impl_whole.f (rd x8 x10)).bind fun bt518 => (if x3.length < 8796093022208 then (impl_allPaid.l0 k (x3 ++ [(⟨bt518.1, bt518.2⟩ : S36)]) x8 x9 (wrap64 (x10 + 1))) else (none))) else (none)) else (none)) else (some x3)
def impl_allPaid.f (k : Nat) (l0_0 : List Int) (l0_1 : List (List Int)) : Option ((List (S36))) := (impl_owes.f k l0_0 l0_1).bind fun t514 => (impl_allPaid.l0 k (([] : List (S36))) t514 (t514.length : Int) 0)
theorem impl_allPaid.mq {p : Prop} (h : p := by
 repeat' first
 | (with_reducible exact ih0 _ _ _ _)
 | (with_reducible exact impl_owes.mono _ _ _)
 | (with_reducible exact LeO.refl _)
 | (with_reducible exact LeO.none _)
 | (with_reducible refine LeO.ite ?_ ?_)
 | (with_reducible refine LeO.bind ?_ (fun _ => ?_))
 | exact ih0 _ _ _ _
 | exact impl_owes.mono _ _ _
 | exact LeO.none _
 | refine LeO.ite ?_ ?_
 | refine LeO.bind ?_ (fun _ => ?_)) : p := h
theorem impl_allPaid.mono_l : ∀ k, (∀ y0 y1 y2 y3, LeO (impl_allPaid.l0 k y0 y1 y2 y3) (impl_allPaid.l0 (k + 1) y0 y1 y2 y3))
 | 0 => fun _ _ _ _ r h => by simp [impl_allPaid.l0] at h
 | k + 1 => by
  have ih0 := impl_allPaid.mono_l k
  ·intro y0 y1 y2 y3
   unfold impl_allPaid.l0
   exact impl_allPaid.mq
theorem impl_allPaid.mono : ∀ a0 a1 k, LeO (impl_allPaid.f k a0 a1) (impl_allPaid.f (k + 1) a0 a1) := by
 intro a0 a1 k
 have ih0 := impl_allPaid.mono_l k
 unfold impl_allPaid.f
 exact impl_allPaid.mq
theorem qz32_ {p : Prop} (h : p := by repeat (first | (with_reducible first | exact HB.out | apply below_alloc | apply pw_below_drewN | apply below_drew1 | refine below_set ?_ GE510.out) | exact HB.out)) : p := h
set_option maxHeartbeats 8000000 in
set_option maxRecDepth 100000 in
theorem impl_allPaid.calls (k : Nat) (A0_0 : Option Addr) (c0_0 : Nat) (l0_0 : List Int) (A0_1 : Option Addr) (c0_1 : Nat) (l0_1 : List (List Int)) (r : List (S36)) (w : World) (hr0_0 : Kd.C (Kd.int .i64) w A0_0 l0_0.length l0_0) (hc0_0 : l0_0.length ≤ c0_0) (hr0_1 : Kd.C (Kd.slice 3 (Kd.int .i64)) w A0_1 l0_1.length l0_1) (hc0_1 : l0_1.length ≤ c0_1) (h : impl_allPaid.f k l0_0 l0_1 = some r) :
  Calls Try.prog 72 #[.agg #[.slice A0_0 l0_0.length c0_0, .slice A0_1 l0_1.length c0_1]] w fun e w' => ∃ v0_ : Value, e = .returned (v0_) ∧ Kd.R k36 36 w' w.heap.size (fun _ => True) v0_ r ∧ Below w.heap.size w w' := by
 have hu26 := Try.underlying26
 have HR0_0 := Aside0.mk hr0_0
 have HC0_0 := Aside0.mk hc0_0
 clear hr0_0 hc0_0
 have HR0_1 := Aside0.mk hr0_1
 have HC0_1 := Aside0.mk hc0_1
 clear hr0_1 hc0_1
 have HB := Aside0.mk (Below.refl w.heap.size w)
 have H : ((impl_owes.f k l0_0 l0_1).bind fun t514 => (impl_allPaid.l0 k (([] : List (S36))) t514 (t514.length : Int) 0)) = some r := h
 clear h
 obtain ⟨y511, hy511⟩ : ∃ y_ : List (S36), y_ = (([] : List (S36))) := ⟨_, rfl⟩
 replace H : ((impl_owes.f k l0_0 l0_1).bind fun t514 => (impl_allPaid.l0 k y511 t514 (t514.length : Int) 0)) = some r := by first | (rw [hy511]; with_reducible exact H) | (have H2_ := (Option.bind_some _ _).symm.trans H; rw [hy511]; with_reducible exact H2_) | (have H2_ := (Option.bind_some _ _).symm.trans H; with_reducible exact H2_) | with_reducible exact H | (rw [hy511]; exact H) | exact H
 have Ny511 := Aside0.mk hy511
 clear hy511
 obtain ⟨t514, A2, H⟩ := bind_ H
 have H' := Aside0.mk H
 clear H
 go_enter Try.func72, Try.ntmps72
 go_wp2_with (first | ((with_reducible refine gate_dst (N := 1) rfl ?_); refine bx_ (N := 1) #[.slice A0_0 l0_0.length c0_0, .slice A0_1 l0_1.length c0_1] 26 ?_; intro gb510 hg w3 hbox hb; have BK510 := Aside0.mk (hbox); have GW510 := Aside0.mk ((by rw [hg]; exact (below_size (qz32_)) : w.heap.size ≤ gb510)); have GE510 := Aside0.mk ((by rw [hg]; exact (below_size (qz32_)) : w.heap.size ≤ gb510)); replace HB := Aside0.mk (below_step (qz32_) hb); clear hb hbox hg) | ((with_reducible refine gate_dst (N := 6) rfl ?_); refine Kd.R_lit k36 _ 36 ?hg (N := 6) ?hd (xs := ([] : List (S36))) (inner := []) (ok := fun _ => True) (okp := fun _ => True) ?hr ?hp (fun _ hk => hk) trivial (Below.refl _ _) (Nat.le_refl _) (by simp) ?_; (case hd => rfl); (case hg => rfl); (case hr => first | (go_simp; done) | (go_simp; rfl)); (case hp => exact (Reps.none _ _)); intro v512 w4 ho5 hb hg_ hnew_; clear hg_ hnew_; (first | rw [← Ny511.out] at ho5 | (simp only [Int.reduceToNat] at ho5; rw [← Ny511.out] at ho5)); have HO513 := Aside0.mk (Kd.R_lower ho5 (below_size (qz32_))); replace BK510 := bb_ BK510 hb; replace HB := Aside0.mk (below_step (qz32_) hb); clear hb ho5; obtain ⟨hcz6_0, hcz6_1, hfz6_0, hfz6_1⟩ := blk2_ BK510) | ((with_reducible refine gate_callee (f := 91) rfl ?_); refine goesL_ (some 8) rfl rfl Try.func91 k_ rfl #[.agg #[.slice A0_0 l0_0.length c0_0, .slice A0_1 l0_1.length c0_1]] rfl (g2_) ?_; (with_reducible refine (impl_owes.calls k _ _ l0_0 _ _ l0_1 t514 _ ?side1 ?side2 ?side3 ?side4 A2.out).mono ?_); (case side1 => exact uf4_ HR0_0); (case side2 => exact HC0_0.out); (case side3 => exact uf4_ HR0_1); (case side4 => exact HC0_1.out); rintro e w7 ⟨v515, rfl, ho0, hb⟩; refine ⟨_, rfl, ?_⟩; replace HO513 := Aside0.mk (Kd.R_below (uf1_ HO513) hb); have HO516 := Aside0.mk (Kd.R_lower ho0 (below_size (qz32_))); replace BK510 := bb_ BK510 hb; replace HB := Aside0.mk (below_step (qz32_) hb); (try clear hb); (try clear hk hi); (try clear ho0); obtain ⟨Ao8, co8, eo8⟩ := Kd.R_slice HO516.out; subst eo8))
 go_loopg [3, 10] k (fun kq v3 v10 w' => ∃ (x3_1 : List (S36)) (x10_1 : Int), v10 = .int .i64 x10_1 ∧ Aside0 (impl_allPaid.l0 kq x3_1 t514 (t514.length : Int) x10_1 = some r) ∧ Aside0 (kq ≤ k) ∧ Aside0 (Kd.R k36 36 w' w.heap.size (fun _ => True) v3 x3_1) ∧ Aside0 (Kd.R (Kd.int .i64) 3 w' w.heap.size (fun _ => True) (.slice Ao8 t514.length co8) t514) ∧ Aside0 (w'.heap[gb510]? = some (.cells #[(.slice A0_0 l0_0.length c0_0), (.slice A0_1 l0_1.length c0_1)] 26 (0, 0))) ∧ Aside0 (Below w.heap.size w w'))
 case atStart => exact ⟨(y511), (0), (g3_), H', ⟨Nat.le_refl _⟩, ⟨uf1_ HO513⟩, ⟨uf1_ HO516⟩, ⟨uf0_ BK510⟩, ⟨qz32_⟩⟩
 case round =>
  clear H'
  try clear p2
  try clear c7
  try clear hcz6_0
  try clear hcz6_1
  try clear hfz6_0
  try clear hfz6_1
  obtain ⟨x3_1, x10_1, rfl, HA, HK1, HO_3, HO_8, BK510, HB⟩ := hrel
  cases gk with
  | zero => exact absurd HA.out (by simp [impl_allPaid.l0])
  | succ k1 =>
   have H := HA.out
   clear HA
   simp only [impl_allPaid.l0] at H
   by_cases c9 : x10_1 < (t514.length : Int)
   ·rw [if_pos c9] at H
    have c9b0 := decide_eq_true c9
    clear c9
    obtain ⟨c10, H⟩ := pos_ H
    have c10b0 := decide_eq_true c10
    clear c10
    obtain ⟨c11, H⟩ := pos_ H
    have c11b0 := decide_eq_true c11
    clear c11
    replace H := Option.bind_eq_some_iff.mp H
    obtain ⟨⟨t518, t519⟩, A120, H⟩ := H
    replace H : (if x3_1.length < 8796093022208 then (impl_allPaid.l0 k1 (x3_1 ++ [(⟨t518, t519⟩ : S36)]) t514 (t514.length : Int) (wrap64 (x10_1 + 1))) else (none)) = some r := H
    have A12 := Aside0.mk A120
    clear A120
    obtain ⟨c13, H⟩ := pos_ H
    have LMc13 := Aside0.mk c13
    clear c13
    obtain ⟨y520, hy520⟩ : ∃ y_ : List (S36), y_ = (x3_1 ++ [(⟨t518, t519⟩ : S36)]) := ⟨_, rfl⟩
    replace H : (impl_allPaid.l0 k1 y520 t514 (t514.length : Int) (wrap64 (x10_1 + 1))) = some r := by first | (rw [hy520]; with_reducible exact H) | (have H2_ := (Option.bind_some _ _).symm.trans H; rw [hy520]; with_reducible exact H2_) | (have H2_ := (Option.bind_some _ _).symm.trans H; with_reducible exact H2_) | with_reducible exact H | (rw [hy520]; exact H) | exact H
    have Ny520 := Aside0.mk hy520
    clear hy520
    have H' := Aside0.mk H
    clear H
    have p517 : 0 ≤ (x10_1 : Int) := of_decide_eq_true (g1_)
    have q517 : x10_1 < (t514.length : Int) := of_decide_eq_true (g1_)
    obtain ⟨ad517, e517, hx517_0⟩ := Kd.at_int (Kd.R_reads' HO_8.out).2.2 x10_1 p517 q517
    cases e517
    replace p517 := eq_true p517
    replace q517 := eq_true q517
    go_wp2_with (first | ((with_reducible refine gate_callee (f := 89) rfl ?_); refine goesL_ (some 16) rfl rfl Try.func89 k_ rfl #[.int .i64 (rd t514 x10_1)] rfl (g2_) ?_; (with_reducible refine (impl_whole.calls (rd t514 x10_1) t518 t519 _ A12.out).mono ?_); rintro e w14 ⟨rfl, hb⟩; refine ⟨_, rfl, ?_⟩; replace HO_3 := Aside0.mk (Kd.R_below (uf1_ HO_3) hb); replace HO_8 := Aside0.mk (Kd.R_below (uf1_ HO_8) hb); replace BK510 := bb_ BK510 hb; replace HB := Aside0.mk (below_step (qz32_) hb); (try clear hb); (try clear hk hi)) | ((with_reducible refine gate_builtin (b := .append) (xs := #[.tmp 14, .tmp 17]) rfl ?_); at_builtin; refine Kd.R_append k36 (w0 := w) w.heap.size rfl (.tmp 14) (.tmp 17) 28 36 (.agg #[(.int .i64 0), (.int .i64 0)]) 16 rfl Try.underlying28 info36 rfl (by decide) (by omega) u3 x3_1 (⟨t518, t519⟩ : S36) [.int .i64 t518, .int .i64 t519] (fun _ => True) (fun _ => False) rfl rfl ?aP (fun _ hk => hk.elim) ?aF ?aO ?aB ?aS ?aL ?_; (case aP => exact k36_mkM _ _ _ (⟨t518, t519⟩ : S36)); (case aB => exact (qz32_)); (case aF => exact (fun _ _ => trivial)); (case aO => exact (uf1_ HO_3)); (case aS => exact (below_size (qz32_))); (case aL => have := LMc13.out; omega); intro v521 w15 ho hb hg hat; rw [← Ny520.out] at ho; replace HO_8 := Aside0.mk (Kd.R_over' (uf1_ HO_8) (Kd.R_typed (uf1_ HO_3)) (by decide) hg); replace BK510 := Aside0.mk (blk_grown (g := gb510) (o := .cells #[.slice A0_0 l0_0.length c0_0, .slice A0_1 l0_1.length c0_1] 26 (0, 0)) (uf0_ BK510) hg (Kd.R_ne HO_3.out BK510.out (by decide))); replace HB := Aside0.mk (hb); have HO522 := Aside0.mk (ho); clear HO_3; clear ho hb hg hat))
    go_roundg k1
    case measure => have := HK1.out; omega
    case rel => exact ⟨(y520), (wrap64 (x10_1 + 1)), (g3_), H', ⟨g9_⟩, ⟨uf1_ HO522⟩, ⟨uf1_ HO_8⟩, ⟨uf0_ BK510⟩, ⟨qz32_⟩⟩
   ·rw [if_neg c9] at H
    have c9b0 := decide_eq_false c9
    clear c9
    obtain rfl := Option.some.inj H
    go_wp2
    go_ret
    exact ⟨_, g4_, uf1_ HO_3, qz32_⟩
def impl_AllPaid.f (k : Nat) (l0_0 : List Int) (l0_1 : List (List Int)) : Option ((List (S36))) := (impl_isBook.f k l0_0 l0_1).bind fun t524 => (if t524 = true then ((impl_allPaid.f k l0_0 l0_1).bind fun t525 => (some t525)) else (some ([] : List (S36))))
theorem impl_AllPaid.mq {p : Prop} (h : p := by
 repeat' first
 | (with_reducible exact impl_allPaid.mono _ _ _)
 | (with_reducible exact impl_isBook.mono _ _ _)
 | (with_reducible exact LeO.refl _)
 | (with_reducible exact LeO.none _)
 | (with_reducible refine LeO.ite ?_ ?_)
 | (with_reducible refine LeO.bind ?_ (fun _ => ?_))
 | exact impl_allPaid.mono _ _ _
 | exact impl_isBook.mono _ _ _
 | exact LeO.none _
 | refine LeO.ite ?_ ?_
 | refine LeO.bind ?_ (fun _ => ?_)) : p := h
theorem impl_AllPaid.mono : ∀ a0 a1 k, LeO (impl_AllPaid.f k a0 a1) (impl_AllPaid.f (k + 1) a0 a1) := by
 intro a0 a1 k
 unfold impl_AllPaid.f
 exact impl_AllPaid.mq
theorem qz19_ {p : Prop} (h : p := by repeat (first | (with_reducible first | exact HB.out | apply below_alloc | apply pw_below_drewN | apply below_drew1 | refine below_set ?_ GE523.out) | exact HB.out)) : p := h
set_option maxHeartbeats 8000000 in
set_option maxRecDepth 100000 in
theorem impl_AllPaid.calls (k : Nat) (A0_0 : Option Addr) (c0_0 : Nat) (l0_0 : List Int) (A0_1 : Option Addr) (c0_1 : Nat) (l0_1 : List (List Int)) (r : List (S36)) (w : World) (hr0_0 : Kd.C (Kd.int .i64) w A0_0 l0_0.length l0_0) (hc0_0 : l0_0.length ≤ c0_0) (hr0_1 : Kd.C (Kd.slice 3 (Kd.int .i64)) w A0_1 l0_1.length l0_1) (hc0_1 : l0_1.length ≤ c0_1) (h : impl_AllPaid.f k l0_0 l0_1 = some r) :
  Calls Try.prog 28 #[.agg #[.slice A0_0 l0_0.length c0_0, .slice A0_1 l0_1.length c0_1]] w fun e w' => ∃ v0_ : Value, e = .returned (v0_) ∧ Kd.R k36 36 w' w.heap.size (fun _ => True) v0_ r ∧ Below w.heap.size w w' := by
 have hu26 := Try.underlying26
 have HR0_0 := Aside0.mk hr0_0
 have HC0_0 := Aside0.mk hc0_0
 clear hr0_0 hc0_0
 have HR0_1 := Aside0.mk hr0_1
 have HC0_1 := Aside0.mk hc0_1
 clear hr0_1 hc0_1
 have HB := Aside0.mk (Below.refl w.heap.size w)
 have H : ((impl_isBook.f k l0_0 l0_1).bind fun t524 => (if t524 = true then ((impl_allPaid.f k l0_0 l0_1).bind fun t525 => (some t525)) else (some ([] : List (S36))))) = some r := h
 clear h
 obtain ⟨t524, A2, H⟩ := bind_ H
 by_cases c3 : t524 = true
 ·subst c3
  replace H := ifp_ H
  obtain ⟨t525, A4, H⟩ := bind_ H
  obtain rfl := Option.some.inj H
  go_enter Try.func28, Try.ntmps28
  go_wp2_with (first | ((with_reducible refine gate_dst (N := 1) rfl ?_); refine bx_ (N := 1) #[.slice A0_0 l0_0.length c0_0, .slice A0_1 l0_1.length c0_1] 26 ?_; intro gb523 hg w5 hbox hb; have BK523 := Aside0.mk (hbox); have GW523 := Aside0.mk ((g99_ : w.heap.size ≤ gb523)); have GE523 := Aside0.mk ((g99_ : w.heap.size ≤ gb523)); replace HB := Aside0.mk (below_step (qz19_) hb); clear hb hbox hg; obtain ⟨hcz6_0, hcz6_1, hfz6_0, hfz6_1⟩ := blk2_ BK523) | ((with_reducible refine gate_callee (f := 54) rfl ?_); refine goesL_ (some 4) rfl rfl Try.func54 k_ rfl #[.agg #[.slice A0_0 l0_0.length c0_0, .slice A0_1 l0_1.length c0_1]] rfl (g2_) ?_; (with_reducible refine (impl_isBook.calls k _ _ l0_0 _ _ l0_1 true _ ?side1 ?side2 ?side3 ?side4 A2.out).mono ?_); (case side1 => exact uf4_ HR0_0); (case side2 => exact HC0_0.out); (case side3 => exact uf4_ HR0_1); (case side4 => exact HC0_1.out); rintro e w7 ⟨rfl, hb⟩; refine ⟨_, rfl, ?_⟩; replace BK523 := bb_ BK523 hb; replace HB := Aside0.mk (below_step (qz19_) hb); (try clear hb); (try clear hk hi); obtain ⟨hcz8_0, hcz8_1, hfz8_0, hfz8_1⟩ := blk2_ BK523) | ((with_reducible refine gate_callee (f := 72) rfl ?_); refine goesL_ (some 7) rfl rfl Try.func72 k_ rfl #[.agg #[.slice A0_0 l0_0.length c0_0, .slice A0_1 l0_1.length c0_1]] rfl (g2_) ?_; (with_reducible refine (impl_allPaid.calls k _ _ l0_0 _ _ l0_1 t525 _ ?side1 ?side2 ?side3 ?side4 A4.out).mono ?_); (case side1 => exact uf4_ HR0_0); (case side2 => exact HC0_0.out); (case side3 => exact uf4_ HR0_1); (case side4 => exact HC0_1.out); rintro e w9 ⟨v526, rfl, ho0, hb⟩; refine ⟨_, rfl, ?_⟩; have HO527 := Aside0.mk (Kd.R_lower ho0 (below_size (qz19_))); replace BK523 := bb_ BK523 hb; replace HB := Aside0.mk (below_step (qz19_) hb); (try clear hb); (try clear hk hi); (try clear ho0)))
  go_ret
  exact ⟨_, g4_, uf1_ HO527, qz19_⟩
 ·replace c3 := Bool.eq_false_iff.mpr c3
  subst c3
  replace H := ifn_ H
  obtain rfl := Option.some.inj H
  go_enter Try.func28, Try.ntmps28
  go_wp2_with (first | ((with_reducible refine gate_dst (N := 1) rfl ?_); refine bx_ (N := 1) #[.slice A0_0 l0_0.length c0_0, .slice A0_1 l0_1.length c0_1] 26 ?_; intro gb523 hg w10 hbox hb; have BK523 := Aside0.mk (hbox); have GW523 := Aside0.mk ((g99_ : w.heap.size ≤ gb523)); have GE523 := Aside0.mk ((g99_ : w.heap.size ≤ gb523)); replace HB := Aside0.mk (below_step (qz19_) hb); clear hb hbox hg; obtain ⟨hcz11_0, hcz11_1, hfz11_0, hfz11_1⟩ := blk2_ BK523) | ((with_reducible refine gate_callee (f := 54) rfl ?_); refine goesL_ (some 4) rfl rfl Try.func54 k_ rfl #[.agg #[.slice A0_0 l0_0.length c0_0, .slice A0_1 l0_1.length c0_1]] rfl (g2_) ?_; (with_reducible refine (impl_isBook.calls k _ _ l0_0 _ _ l0_1 false _ ?side1 ?side2 ?side3 ?side4 A2.out).mono ?_); (case side1 => exact uf4_ HR0_0); (case side2 => exact HC0_0.out); (case side3 => exact uf4_ HR0_1); (case side4 => exact HC0_1.out); rintro e w12 ⟨rfl, hb⟩; refine ⟨_, rfl, ?_⟩; replace BK523 := bb_ BK523 hb; replace HB := Aside0.mk (below_step (qz19_) hb); (try clear hb); (try clear hk hi)))
  go_ret
  exact ⟨_, g4_, g29_, qz19_⟩
def spec_l1In.f (a0 : Int) (a1 : Int) (a2 : Int) : Option (Bool) := if a0 ≥ a1 then (some (decide (a0 ≤ a2))) else (some false)
set_option maxHeartbeats 8000000 in
set_option maxRecDepth 100000 in
theorem spec_l1In.calls (a0 : Int) (a1 : Int) (a2 : Int) (r : Bool) (w : World) (h : spec_l1In.f a0 a1 a2 = some r) :
  Calls Try.prog 90 #[.int .i64 a0, .int .i64 a1, .int .i64 a2] w fun e w' => e = .returned (.bool r) ∧ Drawn0 w w' := by
 have H : (if a0 ≥ a1 then (some (decide (a0 ≤ a2))) else (some false)) = some r := h
 clear h
 by_cases c4 : a0 ≥ a1
 ·rw [if_pos c4] at H
  have c4b0 := decide_eq_true c4
  clear c4
  obtain rfl := Option.some.inj H
  go_enter Try.func90, Try.ntmps90
  go_wp2
  go_ret
  exact ⟨g3_, g5_⟩
 ·rw [if_neg c4] at H
  have c4b0 := decide_eq_false c4
  clear c4
  obtain rfl := Option.some.inj H
  go_enter Try.func90, Try.ntmps90
  go_wp2
  go_ret
  exact ⟨g3_, g5_⟩
mutual
def spec_BookOk.j0 : Nat → Bool → List Int → List (List Int) → Option (Bool)
 | 0, _, _, _ => none
 | k + 1, x18, x194000, x194001 => if x18 = true then (some false) else (spec_BookOk.l0 k 0 x194000 x194001)
def spec_BookOk.l0 : Nat → Int → List Int → List (List Int) → Option (Bool)
 | 0, _, _, _ => none
 | k + 1, x3, x194000, x194001 => if x3 < (x194000.length : Int) then (if 0 ≤ x3 then ((spec_l1In.f (rd x194000 x3) 0 20).bind fun t196 => (if t196 = true then (if x3 < (x194001.length : Int) then (if ((rd_L2 x194001 x3).length : Int) = (x194000.length : Int) then (if x3 < ((rd_L2 x194001 x3).length : Int) then (spec_BookOk.j2 k x3 ((rd (rd_L2 x194001 x3) x3) != 0) x194000 x194001) else (none)) else (spec_BookOk.j2 k x3 true x194000 x194001)) else (none)) else (spec_BookOk.j2 k x3 true x194000 x194001))) else (none)) else (some true)
def spec_BookOk.j2 : Nat → Int → Bool → List Int → List (List Int) → Option (Bool)
 | 0, _, _, _, _ => none
 | k + 1, x3, x55, x194000, x194001 => if x55 = true then (some false) else (spec_BookOk.l1 k x3 0 x194000 x194001)
def spec_BookOk.l1 : Nat → Int → Int → List Int → List (List Int) → Option (Bool)
 | 0, _, _, _, _ => none
 | k + 1, x3, x4, x194000, x194001 => if 0 ≤ x3 then (if x3 < (x194001.length : Int) then (if x4 < ((rd_L2 x194001 x3).length : Int) then (if 0 ≤ x4 then ((spec_l1In.f (rd (rd_L2 x194001 x3) x4) 0 9).bind fun t203 => (if t203 = true then (spec_BookOk.l1 k x3 (wrap64 (x4 + 1)) x194000 x194001) else (some false))) else (none)) else (spec_BookOk.l0 k (wrap64 (x3 + 1)) x194000 x194001)) else (none)) else (none)
end
def spec_BookOk.f (k : Nat) (l0_0 : List Int) (l0_1 : List (List Int)) : Option (Bool) := (spec_l1In.f (l0_0.length : Int) 1 4).bind fun t194 => (if t194 = true then (spec_BookOk.j0 k ((l0_1.length : Int) != (l0_0.length : Int)) l0_0 l0_1) else (spec_BookOk.j0 k true l0_0 l0_1))
theorem spec_BookOk.mq {p : Prop} (h : p := by
 repeat' first
 | (with_reducible exact ih0 _ _ _)
 | (with_reducible exact ih1 _ _ _)
 | (with_reducible exact ih2 _ _ _ _)
 | (with_reducible exact ih3 _ _ _ _)
 | (with_reducible exact LeO.refl _)
 | (with_reducible exact LeO.none _)
 | (with_reducible refine LeO.ite ?_ ?_)
 | (with_reducible refine LeO.bind ?_ (fun _ => ?_))
 | exact ih0 _ _ _
 | exact ih1 _ _ _
 | exact ih2 _ _ _ _
 | exact ih3 _ _ _ _
 | exact LeO.none _
 | refine LeO.ite ?_ ?_
 | refine LeO.bind ?_ (fun _ => ?_)) : p := h
theorem spec_BookOk.mono_l : ∀ k, (∀ y0 y1 y2, LeO (spec_BookOk.j0 k y0 y1 y2) (spec_BookOk.j0 (k + 1) y0 y1 y2)) ∧ (∀ y0 y1 y2, LeO (spec_BookOk.l0 k y0 y1 y2) (spec_BookOk.l0 (k + 1) y0 y1 y2)) ∧ (∀ y0 y1 y2 y3, LeO (spec_BookOk.j2 k y0 y1 y2 y3) (spec_BookOk.j2 (k + 1) y0 y1 y2 y3)) ∧ (∀ y0 y1 y2 y3, LeO (spec_BookOk.l1 k y0 y1 y2 y3) (spec_BookOk.l1 (k + 1) y0 y1 y2 y3))
 | 0 => ⟨fun _ _ _ r h => by simp [spec_BookOk.j0] at h, fun _ _ _ r h => by simp [spec_BookOk.l0] at h, fun _ _ _ _ r h => by simp [spec_BookOk.j2] at h, fun _ _ _ _ r h => by simp [spec_BookOk.l1] at h⟩
 | k + 1 => by
  obtain ⟨ih0, ih1, ih2, ih3⟩ := spec_BookOk.mono_l k
  refine ⟨?_, ?_, ?_, ?_⟩
  ·intro y0 y1 y2
   unfold spec_BookOk.j0
   exact spec_BookOk.mq
  ·intro y0 y1 y2
   unfold spec_BookOk.l0
   exact spec_BookOk.mq
  ·intro y0 y1 y2 y3
   unfold spec_BookOk.j2
   exact spec_BookOk.mq
  ·intro y0 y1 y2 y3
   unfold spec_BookOk.l1
   exact spec_BookOk.mq
theorem spec_BookOk.mono : ∀ a0 a1 k, LeO (spec_BookOk.f k a0 a1) (spec_BookOk.f (k + 1) a0 a1) := by
 intro a0 a1 k
 obtain ⟨ih0, ih1, ih2, ih3⟩ := spec_BookOk.mono_l k
 unfold spec_BookOk.f
 exact spec_BookOk.mq
def spec_BookOk.T6 : Bool × List (List Nat × List Nat) := (true, [([], []), ([0], [0]), ([], []), ([1, 2], [1, 2]), ([3], [3]), ([4], [4]), ([5], [5]), ([6, 5], [6]), ([7], [7]), ([8, 7], [7, 8]), ([7], [7]), ([9, 10, 7], [7, 9, 10]), ([11, 7], [7, 11]), ([12, 7], [7, 12]), ([7], [7]), ([14, 7], [7, 14]), ([15, 7], [7, 15]), ([13, 16, 7], [7, 13, 16]), ([7, 17], [7, 17]), ([18, 7], [18]), ([19], [19]), ([20, 19], [19, 20]), ([19], [19]), ([21, 22, 19], [19, 21, 22]), ([23, 19], [19, 23]), ([19], [19]), ([24, 25, 19], [19, 24, 25]), ([26, 19], [19, 26]), ([27, 19], [19, 27]), ([19, 28], [19, 28])])
def spec_BookOk.B6 : List Nat := [0, 1, 0, 7, 15, 31, 63, 127, 255, 511, 255, 2047, 4095, 8191, 255, 16639, 49407, 131071, 262143, 524287, 1048575, 2097151, 1048575, 8388607, 16777215, 1048575, 67108863, 134217727, 268435455, 536870911]
theorem spec_BookOk.tab6 : rtab .any (opsOf Try.f56 6) = spec_BookOk.T6 := by kernel_rfl
theorem spec_BookOk.bits6 : waitsOk spec_BookOk.T6.2 spec_BookOk.B6 = true := by kernel_rfl
theorem qz33_ {p : Prop} (h : p := by repeat (first | (with_reducible first | exact HB.out | apply below_alloc | apply pw_below_drewN | apply below_drew1 | refine below_set ?_ GE193.out) | exact HB.out)) : p := h
set_option maxHeartbeats 8000000 in
set_option maxRecDepth 100000 in
theorem spec_BookOk.calls (k : Nat) (A0_0 : Option Addr) (c0_0 : Nat) (l0_0 : List Int) (A0_1 : Option Addr) (c0_1 : Nat) (l0_1 : List (List Int)) (r : Bool) (w : World) (hr0_0 : Kd.C (Kd.int .i64) w A0_0 l0_0.length l0_0) (hc0_0 : l0_0.length ≤ c0_0) (hr0_1 : Kd.C (Kd.slice 3 (Kd.int .i64)) w A0_1 l0_1.length l0_1) (hc0_1 : l0_1.length ≤ c0_1) (h : spec_BookOk.f k l0_0 l0_1 = some r) :
  Calls Try.prog 56 #[.agg #[.slice A0_0 l0_0.length c0_0, .slice A0_1 l0_1.length c0_1]] w fun e w' => e = .returned (.bool r) ∧ Below w.heap.size w w' := by
 have hu26 := Try.underlying26
 have HR0_0 := Aside0.mk hr0_0
 have HC0_0 := Aside0.mk hc0_0
 clear hr0_0 hc0_0
 have HR0_1 := Aside0.mk hr0_1
 have HC0_1 := Aside0.mk hc0_1
 clear hr0_1 hc0_1
 have HB := Aside0.mk (Below.refl w.heap.size w)
 have H : ((spec_l1In.f (l0_0.length : Int) 1 4).bind fun t194 => (if t194 = true then (spec_BookOk.j0 k ((l0_1.length : Int) != (l0_0.length : Int)) l0_0 l0_1) else (spec_BookOk.j0 k true l0_0 l0_1))) = some r := h
 clear h
 have HC2 := Aside0.mk H
 clear H
 go_enter Try.func56, Try.ntmps56
 go_upto_region 1 with (first | ((with_reducible refine gate_dst (N := 1) rfl ?_); (try (refine gate_guard (by rfl) ?_; dsimp only)); refine bx_ (N := 1) #[.slice A0_0 l0_0.length c0_0, .slice A0_1 l0_1.length c0_1] 26 ?_; intro gb193 hg w3 hbox hb; have BK193 := Aside0.mk (hbox); have GW193 := Aside0.mk ((by rw [hg]; exact (below_size (qz33_)) : w.heap.size ≤ gb193)); have GE193 := Aside0.mk ((by rw [hg]; exact (below_size (qz33_)) : w.heap.size ≤ gb193)); replace HB := Aside0.mk (below_step (qz33_) hb); clear hb hbox hg))
 (try simp only [Act.put, List.setIfInBounds_toArray, List.set_cons_zero, List.set_cons_succ])
 go_cut [18] (fun v18 wc => ∃ (kq : Nat) (x18_1 : Bool), v18 = .bool x18_1 ∧ Aside0 (spec_BookOk.j0 kq x18_1 l0_0 l0_1 = some r) ∧ Aside0 (kq ≤ k) ∧ Aside0 (wc.heap[gb193]? = some (.cells #[(.slice A0_0 l0_0.length c0_0), (.slice A0_1 l0_1.length c0_1)] 26 (0, 0))) ∧ Aside0 (Below w.heap.size w wc))
 case first =>
  have H := HC2.out
  clear HC2
  obtain ⟨t194, A4, H⟩ := bind_ H
  by_cases c5 : t194 = true
  ·subst c5
   replace H := ifp_ H
   have H' := Aside0.mk H
   clear H
   obtain ⟨hcz6_0, hcz6_1, hfz6_0, hfz6_1⟩ := blk2_ BK193
   go_wp2_with (first | ((with_reducible refine gate_callee (f := 90) rfl ?_); refine goesL_ (some 8) rfl rfl Try.func90 k_ rfl #[.int .i64 (l0_0.length : Int), .int .i64 1, .int .i64 4] rfl (g2_) ?_; (with_reducible refine (spec_l1In.calls (l0_0.length : Int) 1 4 true _ A4.out).mono ?_); rintro e w' ⟨rfl, ⟨nd, rfl⟩⟩; refine ⟨_, rfl, ?_⟩))
   go_meet
   case rel => exact ⟨_, (((l0_1.length : Int) != (l0_0.length : Int))), (g3_), H', ⟨g13_⟩, ⟨uf0_ BK193⟩, ⟨qz33_⟩⟩
  ·replace c5 := Bool.eq_false_iff.mpr c5
   subst c5
   replace H := ifn_ H
   have H' := Aside0.mk H
   clear H
   obtain ⟨hcz7_0, hcz7_1, hfz7_0, hfz7_1⟩ := blk2_ BK193
   go_wp2_with (first | ((with_reducible refine gate_callee (f := 90) rfl ?_); refine goesL_ (some 8) rfl rfl Try.func90 k_ rfl #[.int .i64 (l0_0.length : Int), .int .i64 1, .int .i64 4] rfl (g2_) ?_; (with_reducible refine (spec_l1In.calls (l0_0.length : Int) 1 4 false _ A4.out).mono ?_); rintro e w' ⟨rfl, ⟨nd, rfl⟩⟩; refine ⟨_, rfl, ?_⟩))
   go_meet
   case rel => exact ⟨_, (true), (g3_), H', ⟨g13_⟩, ⟨uf0_ BK193⟩, ⟨qz33_⟩⟩
 case rest =>
  clear HC2
  try clear p2
  try clear c5
  try clear hcz6_0
  try clear hcz6_1
  try clear hcz7_0
  try clear hcz7_1
  try clear hfz6_0
  try clear hfz6_1
  try clear hfz7_0
  try clear hfz7_1
  obtain ⟨kq, x18_1, rfl, HA, HJ1, BK193, HB⟩ := hcut
  cases kq with
  | zero => exact absurd HA.out (by simp [spec_BookOk.j0])
  | succ kj1 =>
   have H := HA.out
   clear HA
   simp only [spec_BookOk.j0] at H
   by_cases c8 : x18_1 = true
   ·subst c8
    replace H := ifp_ H
    obtain rfl := Option.some.inj H
    go_wp2
    go_ret
    exact ⟨g4_, qz33_⟩
   ·replace c8 := Bool.eq_false_iff.mpr c8
    subst c8
    replace H := ifn_ H
    have H' := Aside0.mk H
    clear H
    go_wp2
    go_loopg [3] kj1 (fun kq v3 w' => ∃ (x3_2 : Int), v3 = .int .i64 x3_2 ∧ Aside0 (spec_BookOk.l0 kq x3_2 l0_0 l0_1 = some r) ∧ Aside0 (kq ≤ kj1) ∧ Aside0 (w'.heap[gb193]? = some (.cells #[(.slice A0_0 l0_0.length c0_0), (.slice A0_1 l0_1.length c0_1)] 26 (0, 0))) ∧ Aside0 (Below w.heap.size w w'))
    case atStart => exact ⟨(0), (g3_), H', ⟨Nat.le_refl _⟩, ⟨uf0_ BK193⟩, ⟨qz33_⟩⟩
    case round =>
     clear H'
     try clear p2
     try clear c5
     try clear c8
     try clear hcz6_0
     try clear hcz6_1
     try clear hcz7_0
     try clear hcz7_1
     try clear hfz6_0
     try clear hfz6_1
     try clear hfz7_0
     try clear hfz7_1
     try clear p2
     obtain ⟨x3_2, rfl, HA, HK2, BK193, HB⟩ := hrel
     cases gk with
     | zero => exact absurd HA.out (by simp [spec_BookOk.l0])
     | succ k2 =>
      have H := HA.out
      clear HA
      simp only [spec_BookOk.l0] at H
      by_cases c9 : x3_2 < (l0_0.length : Int)
      ·rw [if_pos c9] at H
       have c9b0 := decide_eq_true c9
       clear c9
       have HC10 := Aside0.mk H
       clear H
       obtain ⟨hcz11_0, hcz11_1, hfz11_0, hfz11_1⟩ := blk2_ BK193
       go_upto_region 6 with (fail)
       go_cut [55] (fun v55 wc => ∃ (kq : Nat) (x55_9 : Bool), v55 = .bool x55_9 ∧ Aside0 (spec_BookOk.j2 kq x3_2 x55_9 l0_0 l0_1 = some r) ∧ Aside0 (kq ≤ k2) ∧ Aside0 (wc.heap[gb193]? = some (.cells #[(.slice A0_0 l0_0.length c0_0), (.slice A0_1 l0_1.length c0_1)] 26 (0, 0))) ∧ Aside0 (Below w.heap.size w wc))
       case first =>
        have H := HC10.out
        clear HC10
        obtain ⟨c12, H⟩ := pos_ H
        have c12b0 := decide_eq_true c12
        clear c12
        (first | rw [c12b0] | (simp only [i64_w, i32_w]; rw [c12b0]) | skip)
        obtain ⟨t196, A13, H⟩ := bind_ H
        by_cases c14 : t196 = true
        ·subst c14
         replace H := ifp_ H
         obtain ⟨c15, H⟩ := pos_ H
         have c15b0 := decide_eq_true c15
         clear c15
         by_cases c16 : ((rd_L2 l0_1 x3_2).length : Int) = (l0_0.length : Int)
         ·rw [if_pos c16] at H
          have c16b0 : (((rd_L2 l0_1 x3_2).length : Int) == (l0_0.length : Int)) = true := beq_iff_eq.mpr c16
          have c16b1 : (((rd_L2 l0_1 x3_2).length : Int) != (l0_0.length : Int)) = false := bne_eq_false_iff_eq.mpr c16
          have c16b2 : ((rd_L2 l0_1 x3_2).length == l0_0.length) = true := by first | simpa using c16 | (simp at c16 ⊢; omega)
          clear c16
          obtain ⟨c17, H⟩ := pos_ H
          have c17b0 := decide_eq_true c17
          clear c17
          have H' := Aside0.mk H
          clear H
          try go_wp2
          replace BK193 := Aside0.mk (blk_drew BK193.out)
          replace HB := Aside0.mk (below_drew1 HB.out)
          have p195 : 0 ≤ (x3_2 : Int) := of_decide_eq_true (g1_)
          have q195 : x3_2 < (l0_0.length : Int) := of_decide_eq_true (g1_)
          obtain ⟨ad195, e195, hx195_0⟩ := Kd.at_int HR0_0.out x3_2 p195 q195
          have hw195_0 := hx195_0
          cases e195
          replace hx195_0 := cl_ HB hx195_0
          replace p195 := eq_true p195
          replace q195 := eq_true q195
          have p197 : 0 ≤ (x3_2 : Int) := of_decide_eq_true (g1_)
          have q197 : x3_2 < (l0_1.length : Int) := of_decide_eq_true (g1_)
          obtain ⟨ad197, A197_0, c197_0, e197, hx197_0, hl197_0, hi197_0⟩ := at_L2 HR0_1.out x3_2 p197 q197
          have hw197_0 := hx197_0
          cases e197
          replace hx197_0 := cl_ HB hx197_0
          have HR197_0 := Aside0.mk hi197_0
          have HC197_0 := Aside0.mk hl197_0
          clear hi197_0 hl197_0
          replace p197 := eq_true p197
          replace q197 := eq_true q197
          have p198 : 0 ≤ (x3_2 : Int) := of_decide_eq_true (g1_)
          have q198 : x3_2 < (l0_1.length : Int) := of_decide_eq_true (g1_)
          obtain ⟨ad198, A198_0, c198_0, e198, hx198_0, hl198_0, hi198_0⟩ := at_L2 HR0_1.out x3_2 p198 q198
          have hw198_0 := hx198_0
          obtain rfl : ad197 = ad198 := (by injection e198)
          replace hx198_0 := cl_ HB hx198_0
          have HR198_0 := Aside0.mk hi198_0
          have HC198_0 := Aside0.mk hl198_0
          clear hi198_0 hl198_0
          replace p198 := eq_true p198
          replace q198 := eq_true q198
          have ea_ := Option.some.inj (hx197_0.symm.trans hx198_0)
          injection ea_ with ea_ en_ ec_
          subst ea_
          subst ec_
          clear en_
          have p199 : 0 ≤ (x3_2 : Int) := of_decide_eq_true (g1_)
          have q199 : x3_2 < ((rd_L2 l0_1 x3_2).length : Int) := of_decide_eq_true (g1_)
          obtain ⟨ad199, e199, hx199_0⟩ := Kd.at_int HR198_0.out x3_2 p199 q199
          have hw199_0 := hx199_0
          cases e199
          replace hx199_0 := cl_ HB hx199_0
          replace p199 := eq_true p199
          replace q199 := eq_true q199
          refine start_ (n := 30) (S := fun w' => w'.cell? ⟨gb193, 0, none⟩ = some (.slice (some ad195) l0_0.length c0_0) ∧ w'.cell? ⟨gb193, 1, none⟩ = some (.slice (some ad197) l0_1.length c0_1) ∧ w'.cell? (ad195.add (x3_2).toNat) = some (.int .i64 (rd l0_0 x3_2)) ∧ w'.cell? (ad197.add (x3_2).toNat) = some (.slice (some ad199) (rd_L2 l0_1 x3_2).length c197_0) ∧ w'.cell? (ad197.add (x3_2).toNat) = some (.slice (some ad199) (rd_L2 l0_1 x3_2).length c197_0) ∧ w'.cell? (ad199.add (x3_2).toNat) = some (.int .i64 (rd (rd_L2 l0_1 x3_2) x3_2))) (ds := []) (tl_ 30 0) (g0_) rfl (g0_) ⟨(blk_cell BK193.out 0).trans rfl, (blk_cell BK193.out 1).trans rfl, ((cl_ HB hw195_0).trans rfl), ((cl_ HB hw197_0).trans rfl), ((cl_ HB hw198_0).trans rfl), ((cl_ HB hw199_0).trans rfl)⟩ (fun hHeld => ?_); refine with_tabW spec_BookOk.tab6 spec_BookOk.bits6 (fun HT_ HW_ => ?_)
          generalize wr.drew = w18 at BK193 HB HR197_0 HR198_0 hx195_0 hx197_0 hx198_0 hx199_0 hHeld ⊢
          refine pw_ 0 26 (tl_ 30 1) rfl rfl ?_
          refine pw_ 2 28 (tl_ 30 5) rfl rfl ?_
          refine tk2_ 1 27 (tl_ 30 7) rfl rfl hHeld ?_
          refine pw_ 3 29 (tl_ 30 15) rfl rfl ?_
          refine tk2_ 4 30 (tl_ 30 31) rfl rfl hHeld ?_
          refine one_ (i := 5) (N := some 31) (tl_ 30 63) rfl rfl (one_of HT_.out (g0_)) (by decide) (fun K hK => ?_)
          refine goes_ Try.func90 (g0_) rfl #[.int .i64 (rd l0_0 x3_2), .int .i64 0, .int .i64 20] (by rfl) rfl rfl (g2_) ?_
          with_reducible refine (spec_l1In.calls (rd l0_0 x3_2) 0 20 true _ A13.out).mono ?_
          rintro e w' ⟨rfl, ⟨nd, rfl⟩⟩
          refine ⟨_, rfl, ?_⟩
          refine hK.out _ _ ⟨(blk_cell BK193.out 0).trans rfl, (blk_cell BK193.out 1).trans rfl, ((cl_ HB hw195_0).trans rfl), ((cl_ HB hw197_0).trans rfl), ((cl_ HB hw198_0).trans rfl), ((cl_ HB hw199_0).trans rfl)⟩ (fun hHeld => ?_)
          clear hK K
          refine nm_ ?_
          refine pw_ 6 32 (tl_ 30 127) rfl rfl ?_
          refine pw_ 7 33 (tl_ 30 255) rfl rfl ?_
          refine pw_ 8 34 (tl_ 30 511) rfl rfl ?_
          refine pw_ 10 36 (tl_ 30 1535) rfl rfl ?_
          refine pw_ 14 40 (tl_ 30 17919) rfl rfl ?_
          refine tk2_ 9 35 (tl_ 30 18431) rfl rfl hHeld ?_
          refine pw_ 11 37 (tl_ 30 20479) rfl rfl ?_
          refine tk2_ 12 38 (tl_ 30 24575) rfl rfl hHeld ?_
          refine pw_ 13 39 (tl_ 30 32767) rfl rfl ?_
          refine tk2_ 15 41 (tl_ 30 65535) rfl rfl hHeld ?_
          refine pw_ 16 42 (tl_ 30 131071) rfl rfl ?_
          refine pw_ 17 43 (tl_ 30 262143) rfl rfl ?_
          refine pw_ 18 44 (tl_ 30 524287) rfl rfl ?_
          refine pw_ 19 45 (tl_ 30 1048575) rfl rfl ?_
          refine pw_ 20 46 (tl_ 30 2097151) rfl rfl ?_
          refine pw_ 22 48 (tl_ 30 6291455) rfl rfl ?_
          refine pw_ 25 51 (tl_ 30 39845887) rfl rfl ?_
          refine tk2_ 21 47 (tl_ 30 41943039) rfl rfl hHeld ?_
          refine pw_ 23 49 (tl_ 30 50331647) rfl rfl ?_
          refine tk2_ 24 50 (tl_ 30 67108863) rfl rfl hHeld ?_
          refine pw_ 26 52 (tl_ 30 134217727) rfl rfl ?_
          refine tk2_ 27 53 (tl_ 30 268435455) rfl rfl hHeld ?_
          refine pw_ 28 54 (tl_ 30 536870911) rfl rfl ?_
          refine pw_ 29 55 (tl_ 30 1073741823) rfl rfl ?_
          refine done_ (done_of HT_.out (g0_)) ?_
          try go_wp2
          go_meet
          case rel => exact ⟨_, (((rd (rd_L2 l0_1 x3_2) x3_2) != 0)), (g3_), H', ⟨g47_⟩, ⟨uf0_ BK193⟩, ⟨qz33_⟩⟩
         ·rw [if_neg c16] at H
          have c16b0 : (((rd_L2 l0_1 x3_2).length : Int) == (l0_0.length : Int)) = false := beq_eq_false_iff_ne.mpr c16
          have c16b1 : (((rd_L2 l0_1 x3_2).length : Int) != (l0_0.length : Int)) = true := bne_iff_ne.mpr c16
          have c16b2 : ((rd_L2 l0_1 x3_2).length == l0_0.length) = false := by first | simpa using c16 | (simp at c16 ⊢; omega)
          have H' := Aside0.mk H
          clear H
          try go_wp2
          replace BK193 := Aside0.mk (blk_drew BK193.out)
          replace HB := Aside0.mk (below_drew1 HB.out)
          have p195 : 0 ≤ (x3_2 : Int) := of_decide_eq_true (g1_)
          have q195 : x3_2 < (l0_0.length : Int) := of_decide_eq_true (g1_)
          obtain ⟨ad195, e195, hx195_0⟩ := Kd.at_int HR0_0.out x3_2 p195 q195
          have hw195_0 := hx195_0
          cases e195
          replace hx195_0 := cl_ HB hx195_0
          replace p195 := eq_true p195
          replace q195 := eq_true q195
          have p197 : 0 ≤ (x3_2 : Int) := of_decide_eq_true (g1_)
          have q197 : x3_2 < (l0_1.length : Int) := of_decide_eq_true (g1_)
          obtain ⟨ad197, A197_0, c197_0, e197, hx197_0, hl197_0, hi197_0⟩ := at_L2 HR0_1.out x3_2 p197 q197
          have hw197_0 := hx197_0
          cases e197
          replace hx197_0 := cl_ HB hx197_0
          have HR197_0 := Aside0.mk hi197_0
          have HC197_0 := Aside0.mk hl197_0
          clear hi197_0 hl197_0
          replace p197 := eq_true p197
          replace q197 := eq_true q197
          refine start_ (n := 30) (S := fun w' => w'.cell? ⟨gb193, 0, none⟩ = some (.slice (some ad195) l0_0.length c0_0) ∧ w'.cell? ⟨gb193, 1, none⟩ = some (.slice (some ad197) l0_1.length c0_1) ∧ w'.cell? (ad195.add (x3_2).toNat) = some (.int .i64 (rd l0_0 x3_2)) ∧ w'.cell? (ad197.add (x3_2).toNat) = some (.slice A197_0 (rd_L2 l0_1 x3_2).length c197_0)) (ds := []) (tl_ 30 0) (g0_) rfl (g0_) ⟨(blk_cell BK193.out 0).trans rfl, (blk_cell BK193.out 1).trans rfl, ((cl_ HB hw195_0).trans rfl), ((cl_ HB hw197_0).trans rfl)⟩ (fun hHeld => ?_); refine with_tabW spec_BookOk.tab6 spec_BookOk.bits6 (fun HT_ HW_ => ?_)
          generalize wr.drew = w19 at BK193 HB HR197_0 hx195_0 hx197_0 hHeld ⊢
          refine pw_ 0 26 (tl_ 30 1) rfl rfl ?_
          refine pw_ 2 28 (tl_ 30 5) rfl rfl ?_
          refine tk3_ 1 27 (tl_ 30 7) rfl rfl hHeld ?_
          refine pw_ 3 29 (tl_ 30 15) rfl rfl ?_
          refine tk3_ 4 30 (tl_ 30 31) rfl rfl hHeld ?_
          refine one_ (i := 5) (N := some 31) (tl_ 30 63) rfl rfl (one_of HT_.out (g0_)) (by decide) (fun K hK => ?_)
          refine goes_ Try.func90 (g0_) rfl #[.int .i64 (rd l0_0 x3_2), .int .i64 0, .int .i64 20] (by rfl) rfl rfl (g2_) ?_
          with_reducible refine (spec_l1In.calls (rd l0_0 x3_2) 0 20 true _ A13.out).mono ?_
          rintro e w' ⟨rfl, ⟨nd, rfl⟩⟩
          refine ⟨_, rfl, ?_⟩
          refine hK.out _ _ ⟨(blk_cell BK193.out 0).trans rfl, (blk_cell BK193.out 1).trans rfl, ((cl_ HB hw195_0).trans rfl), ((cl_ HB hw197_0).trans rfl)⟩ (fun hHeld => ?_)
          clear hK K
          refine nm_ ?_
          refine pw_ 6 32 (tl_ 30 127) rfl rfl ?_
          refine pw_ 7 33 (tl_ 30 255) rfl rfl ?_
          refine pw_ 8 34 (tl_ 30 511) rfl rfl ?_
          refine pw_ 10 36 (tl_ 30 1535) rfl rfl ?_
          refine pw_ 14 40 (tl_ 30 17919) rfl rfl ?_
          refine tk3_ 9 35 (tl_ 30 18431) rfl rfl hHeld ?_
          refine pw_ 11 37 (tl_ 30 20479) rfl rfl ?_
          refine tk3_ 12 38 (tl_ 30 24575) rfl rfl hHeld ?_
          refine pw_ 13 39 (tl_ 30 32767) rfl rfl ?_
          refine tk3_ 15 41 (tl_ 30 65535) rfl rfl hHeld ?_
          refine pw_ 16 42 (tl_ 30 131071) rfl rfl ?_
          refine pw_ 17 43 (tl_ 30 262143) rfl rfl ?_
          refine pw_ 18 44 (tl_ 30 524287) rfl rfl ?_
          refine pw_ 19 45 (tl_ 30 1048575) rfl rfl ?_
          refine pu_ 20 46 (tl_ 30 2097151) rfl rfl ?_
          refine pu_ 21 47 (tl_ 30 4194303) rfl rfl ?_
          refine pu_ 22 48 (tl_ 30 8388607) rfl rfl ?_
          refine pu_ 23 49 (tl_ 30 16777215) rfl rfl ?_
          refine pu_ 24 50 (tl_ 30 33554431) rfl rfl ?_
          refine pu_ 25 51 (tl_ 30 67108863) rfl rfl ?_
          refine pu_ 26 52 (tl_ 30 134217727) rfl rfl ?_
          refine pu_ 27 53 (tl_ 30 268435455) rfl rfl ?_
          refine pu_ 28 54 (tl_ 30 536870911) rfl rfl ?_
          refine pw_ 29 55 (tl_ 30 1073741823) rfl rfl ?_
          refine done_ (done_of HT_.out (g0_)) ?_
          try go_wp2
          go_meet
          case rel => exact ⟨_, (true), (g3_), H', ⟨g47_⟩, ⟨uf0_ BK193⟩, ⟨qz33_⟩⟩
        ·replace c14 := Bool.eq_false_iff.mpr c14
         subst c14
         replace H := ifn_ H
         have H' := Aside0.mk H
         clear H
         try go_wp2
         replace BK193 := Aside0.mk (blk_drew BK193.out)
         replace HB := Aside0.mk (below_drew1 HB.out)
         have p195 : 0 ≤ (x3_2 : Int) := of_decide_eq_true (g1_)
         have q195 : x3_2 < (l0_0.length : Int) := of_decide_eq_true (g1_)
         obtain ⟨ad195, e195, hx195_0⟩ := Kd.at_int HR0_0.out x3_2 p195 q195
         have hw195_0 := hx195_0
         cases e195
         replace hx195_0 := cl_ HB hx195_0
         replace p195 := eq_true p195
         replace q195 := eq_true q195
         refine start_ (n := 30) (S := fun w' => w'.cell? ⟨gb193, 0, none⟩ = some (.slice (some ad195) l0_0.length c0_0) ∧ w'.cell? ⟨gb193, 1, none⟩ = some (.slice A0_1 l0_1.length c0_1) ∧ w'.cell? (ad195.add (x3_2).toNat) = some (.int .i64 (rd l0_0 x3_2))) (ds := []) (tl_ 30 0) (g0_) rfl (g0_) ⟨(blk_cell BK193.out 0).trans rfl, (blk_cell BK193.out 1).trans rfl, ((cl_ HB hw195_0).trans rfl)⟩ (fun hHeld => ?_); refine with_tabW spec_BookOk.tab6 spec_BookOk.bits6 (fun HT_ HW_ => ?_)
         generalize wr.drew = w20 at BK193 HB hx195_0 hHeld ⊢
         refine pw_ 0 26 (tl_ 30 1) rfl rfl ?_
         refine pw_ 2 28 (tl_ 30 5) rfl rfl ?_
         refine tk1_ 1 27 (tl_ 30 7) rfl rfl hHeld ?_
         refine pw_ 3 29 (tl_ 30 15) rfl rfl ?_
         refine tk1_ 4 30 (tl_ 30 31) rfl rfl hHeld ?_
         refine one_ (i := 5) (N := some 31) (tl_ 30 63) rfl rfl (one_of HT_.out (g0_)) (by decide) (fun K hK => ?_)
         refine goes_ Try.func90 (g0_) rfl #[.int .i64 (rd l0_0 x3_2), .int .i64 0, .int .i64 20] (by rfl) rfl rfl (g2_) ?_
         with_reducible refine (spec_l1In.calls (rd l0_0 x3_2) 0 20 false _ A13.out).mono ?_
         rintro e w' ⟨rfl, ⟨nd, rfl⟩⟩
         refine ⟨_, rfl, ?_⟩
         refine hK.out _ _ ⟨(blk_cell BK193.out 0).trans rfl, (blk_cell BK193.out 1).trans rfl, ((cl_ HB hw195_0).trans rfl)⟩ (fun hHeld => ?_)
         clear hK K
         refine nm_ ?_
         refine pw_ 6 32 (tl_ 30 127) rfl rfl ?_
         refine pw_ 7 33 (tl_ 30 255) rfl rfl ?_
         refine pu_ 8 34 (tl_ 30 511) rfl rfl ?_
         refine pu_ 9 35 (tl_ 30 1023) rfl rfl ?_
         refine pu_ 10 36 (tl_ 30 2047) rfl rfl ?_
         refine pu_ 11 37 (tl_ 30 4095) rfl rfl ?_
         refine pu_ 12 38 (tl_ 30 8191) rfl rfl ?_
         refine pu_ 13 39 (tl_ 30 16383) rfl rfl ?_
         refine pu_ 14 40 (tl_ 30 32767) rfl rfl ?_
         refine pu_ 15 41 (tl_ 30 65535) rfl rfl ?_
         refine pu_ 16 42 (tl_ 30 131071) rfl rfl ?_
         refine pu_ 17 43 (tl_ 30 262143) rfl rfl ?_
         refine pw_ 18 44 (tl_ 30 524287) rfl rfl ?_
         refine pw_ 19 45 (tl_ 30 1048575) rfl rfl ?_
         refine pu_ 20 46 (tl_ 30 2097151) rfl rfl ?_
         refine pu_ 21 47 (tl_ 30 4194303) rfl rfl ?_
         refine pu_ 22 48 (tl_ 30 8388607) rfl rfl ?_
         refine pu_ 23 49 (tl_ 30 16777215) rfl rfl ?_
         refine pu_ 24 50 (tl_ 30 33554431) rfl rfl ?_
         refine pu_ 25 51 (tl_ 30 67108863) rfl rfl ?_
         refine pu_ 26 52 (tl_ 30 134217727) rfl rfl ?_
         refine pu_ 27 53 (tl_ 30 268435455) rfl rfl ?_
         refine pu_ 28 54 (tl_ 30 536870911) rfl rfl ?_
         refine pw_ 29 55 (tl_ 30 1073741823) rfl rfl ?_
         refine done_ (done_of HT_.out (g0_)) ?_
         try go_wp2
         go_meet
         case rel => exact ⟨_, (true), (g3_), H', ⟨g47_⟩, ⟨uf0_ BK193⟩, ⟨qz33_⟩⟩
       case rest =>
        clear HC10
        try clear c1
        try clear p1
        try clear q1
        try clear hx1
        try clear p2
        try clear c9
        try clear c12
        try clear c14
        try clear c15
        try clear c16
        try clear c16b0
        try clear c16b1
        try clear c16b2
        try clear c17
        try clear c19
        try clear p19
        try clear q19
        try clear hx19
        try clear hx195_0
        try clear hx197_0
        try clear p195
        try clear p197
        try clear q195
        try clear q197
        obtain ⟨kq, x55_9, rfl, HA, HJ9, BK193, HB⟩ := hcut
        cases kq with
        | zero => exact absurd HA.out (by simp [spec_BookOk.j2])
        | succ kj9 =>
         have H := HA.out
         clear HA
         simp only [spec_BookOk.j2] at H
         by_cases c21 : x55_9 = true
         ·subst c21
          replace H := ifp_ H
          obtain rfl := Option.some.inj H
          go_wp2
          go_ret
          exact ⟨g4_, qz33_⟩
         ·replace c21 := Bool.eq_false_iff.mpr c21
          subst c21
          replace H := ifn_ H
          have H' := Aside0.mk H
          clear H
          go_wp2
          go_loopg [4] kj9 (fun kq v4 w' => ∃ (x4_4 : Int), v4 = .int .i64 x4_4 ∧ Aside0 (spec_BookOk.l1 kq x3_2 x4_4 l0_0 l0_1 = some r) ∧ Aside0 (kq ≤ kj9) ∧ Aside0 (w'.heap[gb193]? = some (.cells #[(.slice A0_0 l0_0.length c0_0), (.slice A0_1 l0_1.length c0_1)] 26 (0, 0))) ∧ Aside0 (Below w.heap.size w w'))
          case atStart => exact ⟨(0), (g3_), H', ⟨Nat.le_refl _⟩, ⟨uf0_ BK193⟩, ⟨qz33_⟩⟩
          case round =>
           clear H'
           try clear c1
           try clear p1
           try clear q1
           try clear hx1
           try clear c2
           try clear p2
           try clear c9
           try clear c12
           try clear c14
           try clear c15
           try clear c16
           try clear c16b0
           try clear c16b1
           try clear c16b2
           try clear c17
           try clear c19
           try clear p19
           try clear q19
           try clear hx19
           try clear c21
           try clear hx195_0
           try clear hx197_0
           try clear p1
           try clear p19
           try clear p195
           try clear p197
           try clear p2
           try clear q1
           try clear q19
           try clear q195
           try clear q197
           obtain ⟨x4_4, rfl, HA, HK4, BK193, HB⟩ := hrel
           cases gk with
           | zero => exact absurd HA.out (by simp [spec_BookOk.l1])
           | succ k4 =>
            have H := HA.out
            clear HA
            simp only [spec_BookOk.l1] at H
            obtain ⟨c22, H⟩ := pos_ H
            have c22b0 := decide_eq_true c22
            clear c22
            obtain ⟨c23, H⟩ := pos_ H
            have c23b0 := decide_eq_true c23
            clear c23
            by_cases c24 : x4_4 < ((rd_L2 l0_1 x3_2).length : Int)
            ·rw [if_pos c24] at H
             have c24b0 := decide_eq_true c24
             clear c24
             obtain ⟨c25, H⟩ := pos_ H
             have c25b0 := decide_eq_true c25
             clear c25
             obtain ⟨t203, A26, H⟩ := bind_ H
             by_cases c27 : t203 = true
             ·subst c27
              replace H := ifp_ H
              have H' := Aside0.mk H
              clear H
              obtain ⟨hcz28_0, hcz28_1, hfz28_0, hfz28_1⟩ := blk2_ BK193
              have p200 : 0 ≤ (x3_2 : Int) := of_decide_eq_true (g1_)
              have q200 : x3_2 < (l0_1.length : Int) := of_decide_eq_true (g1_)
              obtain ⟨ad200, A200_0, c200_0, e200, hx200_0, hl200_0, hi200_0⟩ := at_L2 HR0_1.out x3_2 p200 q200
              cases e200
              replace hx200_0 := cl_ HB hx200_0
              have HR200_0 := Aside0.mk hi200_0
              have HC200_0 := Aside0.mk hl200_0
              clear hi200_0 hl200_0
              replace p200 := eq_true p200
              replace q200 := eq_true q200
              have p201 : 0 ≤ (x3_2 : Int) := of_decide_eq_true (g1_)
              have q201 : x3_2 < (l0_1.length : Int) := of_decide_eq_true (g1_)
              obtain ⟨ad201, A201_0, c201_0, e201, hx201_0, hl201_0, hi201_0⟩ := at_L2 HR0_1.out x3_2 p201 q201
              obtain rfl : ad200 = ad201 := (by injection e201)
              replace hx201_0 := cl_ HB hx201_0
              have HR201_0 := Aside0.mk hi201_0
              have HC201_0 := Aside0.mk hl201_0
              clear hi201_0 hl201_0
              replace p201 := eq_true p201
              replace q201 := eq_true q201
              have ea_ := Option.some.inj (hx200_0.symm.trans hx201_0)
              injection ea_ with ea_ en_ ec_
              subst ea_
              subst ec_
              clear en_
              have p202 : 0 ≤ (x4_4 : Int) := of_decide_eq_true (g1_)
              have q202 : x4_4 < ((rd_L2 l0_1 x3_2).length : Int) := of_decide_eq_true (g1_)
              obtain ⟨ad202, e202, hx202_0⟩ := Kd.at_int HR201_0.out x4_4 p202 q202
              cases e202
              replace hx202_0 := cl_ HB hx202_0
              replace p202 := eq_true p202
              replace q202 := eq_true q202
              go_wp2_with (first | ((with_reducible refine gate_callee (f := 90) rfl ?_); refine goesL_ (some 74) rfl rfl Try.func90 k_ rfl #[.int .i64 (rd (rd_L2 l0_1 x3_2) x4_4), .int .i64 0, .int .i64 9] rfl (g2_) ?_; (with_reducible refine (spec_l1In.calls (rd (rd_L2 l0_1 x3_2) x4_4) 0 9 true _ A26.out).mono ?_); rintro e w' ⟨rfl, ⟨nd, rfl⟩⟩; refine ⟨_, rfl, ?_⟩))
              go_roundg k4
              case measure => have := HJ1.out; have := HK2.out; have := HJ9.out; have := HK4.out; omega
              case rel => exact ⟨(wrap64 (x4_4 + 1)), (g3_), H', ⟨by have := HJ1.out; have := HK2.out; have := HJ9.out; have := HK4.out; omega⟩, ⟨uf0_ BK193⟩, ⟨qz33_⟩⟩
             ·replace c27 := Bool.eq_false_iff.mpr c27
              subst c27
              replace H := ifn_ H
              obtain rfl := Option.some.inj H
              obtain ⟨hcz29_0, hcz29_1, hfz29_0, hfz29_1⟩ := blk2_ BK193
              have p200 : 0 ≤ (x3_2 : Int) := of_decide_eq_true (g1_)
              have q200 : x3_2 < (l0_1.length : Int) := of_decide_eq_true (g1_)
              obtain ⟨ad200, A200_0, c200_0, e200, hx200_0, hl200_0, hi200_0⟩ := at_L2 HR0_1.out x3_2 p200 q200
              cases e200
              replace hx200_0 := cl_ HB hx200_0
              have HR200_0 := Aside0.mk hi200_0
              have HC200_0 := Aside0.mk hl200_0
              clear hi200_0 hl200_0
              replace p200 := eq_true p200
              replace q200 := eq_true q200
              have p201 : 0 ≤ (x3_2 : Int) := of_decide_eq_true (g1_)
              have q201 : x3_2 < (l0_1.length : Int) := of_decide_eq_true (g1_)
              obtain ⟨ad201, A201_0, c201_0, e201, hx201_0, hl201_0, hi201_0⟩ := at_L2 HR0_1.out x3_2 p201 q201
              obtain rfl : ad200 = ad201 := (by injection e201)
              replace hx201_0 := cl_ HB hx201_0
              have HR201_0 := Aside0.mk hi201_0
              have HC201_0 := Aside0.mk hl201_0
              clear hi201_0 hl201_0
              replace p201 := eq_true p201
              replace q201 := eq_true q201
              have ea_ := Option.some.inj (hx200_0.symm.trans hx201_0)
              injection ea_ with ea_ en_ ec_
              subst ea_
              subst ec_
              clear en_
              have p202 : 0 ≤ (x4_4 : Int) := of_decide_eq_true (g1_)
              have q202 : x4_4 < ((rd_L2 l0_1 x3_2).length : Int) := of_decide_eq_true (g1_)
              obtain ⟨ad202, e202, hx202_0⟩ := Kd.at_int HR201_0.out x4_4 p202 q202
              cases e202
              replace hx202_0 := cl_ HB hx202_0
              replace p202 := eq_true p202
              replace q202 := eq_true q202
              go_wp2_with (first | ((with_reducible refine gate_callee (f := 90) rfl ?_); refine goesL_ (some 74) rfl rfl Try.func90 k_ rfl #[.int .i64 (rd (rd_L2 l0_1 x3_2) x4_4), .int .i64 0, .int .i64 9] rfl (g2_) ?_; (with_reducible refine (spec_l1In.calls (rd (rd_L2 l0_1 x3_2) x4_4) 0 9 false _ A26.out).mono ?_); rintro e w' ⟨rfl, ⟨nd, rfl⟩⟩; refine ⟨_, rfl, ?_⟩))
              go_ret
              exact ⟨g4_, qz33_⟩
            ·rw [if_neg c24] at H
             have c24b0 := decide_eq_false c24
             clear c24
             have H' := Aside0.mk H
             clear H
             obtain ⟨hcz30_0, hcz30_1, hfz30_0, hfz30_1⟩ := blk2_ BK193
             have p200 : 0 ≤ (x3_2 : Int) := of_decide_eq_true (g1_)
             have q200 : x3_2 < (l0_1.length : Int) := of_decide_eq_true (g1_)
             obtain ⟨ad200, A200_0, c200_0, e200, hx200_0, hl200_0, hi200_0⟩ := at_L2 HR0_1.out x3_2 p200 q200
             cases e200
             replace hx200_0 := cl_ HB hx200_0
             have HR200_0 := Aside0.mk hi200_0
             have HC200_0 := Aside0.mk hl200_0
             clear hi200_0 hl200_0
             replace p200 := eq_true p200
             replace q200 := eq_true q200
             go_wp2
             go_roundg k4
             case measure => have := HJ1.out; have := HK2.out; have := HJ9.out; have := HK4.out; omega
             case rel => exact ⟨(wrap64 (x3_2 + 1)), (g3_), H', ⟨by have := HJ1.out; have := HK2.out; have := HJ9.out; have := HK4.out; omega⟩, ⟨uf0_ BK193⟩, ⟨qz33_⟩⟩
      ·rw [if_neg c9] at H
       have c9b0 := decide_eq_false c9
       clear c9
       obtain rfl := Option.some.inj H
       obtain ⟨hcz31_0, hcz31_1, hfz31_0, hfz31_1⟩ := blk2_ BK193
       go_wp2
       go_ret
       exact ⟨g4_, qz33_⟩
mutual
def spec_OwesOf.l0 : Nat → List Int → Int → List Int → List (List Int) → Option (List Int)
 | 0, _, _, _, _ => none
 | k + 1, x3, x4, x331000, x331001 => if x4 < (x331000.length : Int) then ((spec_BookOk.f k x331000 x331001).bind fun t334 => (spec_OwesOf.j1 k x3 x4 t334 x331000 x331001)) else (spec_OwesOf.j1 k x3 x4 false x331000 x331001)
def spec_OwesOf.j1 : Nat → List Int → Int → Bool → List Int → List (List Int) → Option (List Int)
 | 0, _, _, _, _, _ => none
 | k + 1, x3, x4, x16, x331000, x331001 => if x16 = true then (spec_OwesOf.l1 k x3 x4 0 0 x331000 x331001) else (some x3)
def spec_OwesOf.l1 : Nat → List Int → Int → Int → Int → List Int → List (List Int) → Option (List Int)
 | 0, _, _, _, _, _, _ => none
 | k + 1, x3, x4, x5, x6, x331000, x331001 => if x6 < (x331000.length : Int) then (if 0 ≤ x4 then (if x4 < (x331001.length : Int) then (if 0 ≤ x6 then (if x6 < ((rd_L2 x331001 x4).length : Int) then (spec_OwesOf.l1 k x3 x4 (wrap64 (x5 + (rd (rd_L2 x331001 x4) x6))) (wrap64 (x6 + 1)) x331000 x331001) else (none)) else (none)) else (none)) else (none)) else (if x3.length < 17592186044416 then (spec_OwesOf.l0 k (x3 ++ [x5]) (wrap64 (x4 + 1)) x331000 x331001) else (none))
end
def spec_OwesOf.f (k : Nat) (l0_0 : List Int) (l0_1 : List (List Int)) : Option (List Int) := spec_OwesOf.l0 k (([] : List Int)) 0 l0_0 l0_1
theorem spec_OwesOf.mq {p : Prop} (h : p := by
 repeat' first
 | (with_reducible exact ih0 _ _ _ _)
 | (with_reducible exact ih1 _ _ _ _ _)
 | (with_reducible exact ih2 _ _ _ _ _ _)
 | (with_reducible exact spec_BookOk.mono _ _ _)
 | (with_reducible exact LeO.refl _)
 | (with_reducible exact LeO.none _)
 | (with_reducible refine LeO.ite ?_ ?_)
 | (with_reducible refine LeO.bind ?_ (fun _ => ?_))
 | exact ih0 _ _ _ _
 | exact ih1 _ _ _ _ _
 | exact ih2 _ _ _ _ _ _
 | exact spec_BookOk.mono _ _ _
 | exact LeO.none _
 | refine LeO.ite ?_ ?_
 | refine LeO.bind ?_ (fun _ => ?_)) : p := h
theorem spec_OwesOf.mono_l : ∀ k, (∀ y0 y1 y2 y3, LeO (spec_OwesOf.l0 k y0 y1 y2 y3) (spec_OwesOf.l0 (k + 1) y0 y1 y2 y3)) ∧ (∀ y0 y1 y2 y3 y4, LeO (spec_OwesOf.j1 k y0 y1 y2 y3 y4) (spec_OwesOf.j1 (k + 1) y0 y1 y2 y3 y4)) ∧ (∀ y0 y1 y2 y3 y4 y5, LeO (spec_OwesOf.l1 k y0 y1 y2 y3 y4 y5) (spec_OwesOf.l1 (k + 1) y0 y1 y2 y3 y4 y5))
 | 0 => ⟨fun _ _ _ _ r h => by simp [spec_OwesOf.l0] at h, fun _ _ _ _ _ r h => by simp [spec_OwesOf.j1] at h, fun _ _ _ _ _ _ r h => by simp [spec_OwesOf.l1] at h⟩
 | k + 1 => by
  obtain ⟨ih0, ih1, ih2⟩ := spec_OwesOf.mono_l k
  refine ⟨?_, ?_, ?_⟩
  ·intro y0 y1 y2 y3
   unfold spec_OwesOf.l0
   exact spec_OwesOf.mq
  ·intro y0 y1 y2 y3 y4
   unfold spec_OwesOf.j1
   exact spec_OwesOf.mq
  ·intro y0 y1 y2 y3 y4 y5
   unfold spec_OwesOf.l1
   exact spec_OwesOf.mq
theorem spec_OwesOf.mono : ∀ a0 a1 k, LeO (spec_OwesOf.f k a0 a1) (spec_OwesOf.f (k + 1) a0 a1) := by
 intro a0 a1 k
 obtain ⟨ih0, ih1, ih2⟩ := spec_OwesOf.mono_l k
 unfold spec_OwesOf.f
 exact spec_OwesOf.mq
theorem qz34_ {p : Prop} (h : p := by repeat (first | (with_reducible first | exact HB.out | apply below_alloc | apply pw_below_drewN | apply below_drew1 | refine below_set ?_ GE330.out) | exact HB.out)) : p := h
set_option maxHeartbeats 8000000 in
set_option maxRecDepth 100000 in
theorem spec_OwesOf.calls (k : Nat) (A0_0 : Option Addr) (c0_0 : Nat) (l0_0 : List Int) (A0_1 : Option Addr) (c0_1 : Nat) (l0_1 : List (List Int)) (r : List Int) (w : World) (hr0_0 : Kd.C (Kd.int .i64) w A0_0 l0_0.length l0_0) (hc0_0 : l0_0.length ≤ c0_0) (hr0_1 : Kd.C (Kd.slice 3 (Kd.int .i64)) w A0_1 l0_1.length l0_1) (hc0_1 : l0_1.length ≤ c0_1) (h : spec_OwesOf.f k l0_0 l0_1 = some r) :
  Calls Try.prog 62 #[.agg #[.slice A0_0 l0_0.length c0_0, .slice A0_1 l0_1.length c0_1]] w fun e w' => ∃ v0_ : Value, e = .returned (v0_) ∧ Kd.R (Kd.int .i64) 3 w' w.heap.size (fun _ => True) v0_ r ∧ Below w.heap.size w w' := by
 have hu26 := Try.underlying26
 have HR0_0 := Aside0.mk hr0_0
 have HC0_0 := Aside0.mk hc0_0
 clear hr0_0 hc0_0
 have HR0_1 := Aside0.mk hr0_1
 have HC0_1 := Aside0.mk hc0_1
 clear hr0_1 hc0_1
 have HB := Aside0.mk (Below.refl w.heap.size w)
 have H : (spec_OwesOf.l0 k (([] : List Int)) 0 l0_0 l0_1) = some r := h
 clear h
 obtain ⟨y331, hy331⟩ : ∃ y_ : List Int, y_ = (([] : List Int)) := ⟨_, rfl⟩
 replace H : (spec_OwesOf.l0 k y331 0 l0_0 l0_1) = some r := by first | (rw [hy331]; with_reducible exact H) | (have H2_ := (Option.bind_some _ _).symm.trans H; rw [hy331]; with_reducible exact H2_) | (have H2_ := (Option.bind_some _ _).symm.trans H; with_reducible exact H2_) | with_reducible exact H | (rw [hy331]; exact H) | exact H
 have Ny331 := Aside0.mk hy331
 clear hy331
 have H' := Aside0.mk H
 clear H
 go_enter Try.func62, Try.ntmps62
 go_wp2_with (first | ((with_reducible refine gate_dst (N := 1) rfl ?_); refine bx_ (N := 1) #[.slice A0_0 l0_0.length c0_0, .slice A0_1 l0_1.length c0_1] 26 ?_; intro gb330 hg w2 hbox hb; have BK330 := Aside0.mk (hbox); have GW330 := Aside0.mk ((by rw [hg]; exact (below_size (qz34_)) : w.heap.size ≤ gb330)); have GE330 := Aside0.mk ((by rw [hg]; exact (below_size (qz34_)) : w.heap.size ≤ gb330)); replace HB := Aside0.mk (below_step (qz34_) hb); clear hb hbox hg) | ((with_reducible refine gate_dst (N := 7) rfl ?_); refine Kd.R_lit (Kd.int .i64) _ 3 ?hg (N := 7) ?hd (xs := ([] : List Int)) (inner := []) (ok := fun _ => True) (okp := fun _ => True) ?hr ?hp (fun _ hk => hk) trivial (Below.refl _ _) (Nat.le_refl _) (by simp) ?_; (case hd => rfl); (case hg => rfl); (case hr => first | (go_simp; done) | (go_simp; rfl)); (case hp => exact (Reps.none _ _)); intro v332 w3 ho4 hb hg_ hnew_; clear hg_ hnew_; (first | rw [← Ny331.out] at ho4 | (simp only [Int.reduceToNat] at ho4; rw [← Ny331.out] at ho4)); have HO333 := Aside0.mk (Kd.R_lower ho4 (below_size (qz34_))); replace BK330 := bb_ BK330 hb; replace HB := Aside0.mk (below_step (qz34_) hb); clear hb ho4))
 go_loopg [3, 4] k (fun kq v3 v4 w' => ∃ (x3_1 : List Int) (x4_1 : Int), v4 = .int .i64 x4_1 ∧ Aside0 (spec_OwesOf.l0 kq x3_1 x4_1 l0_0 l0_1 = some r) ∧ Aside0 (kq ≤ k) ∧ Aside0 (Kd.R (Kd.int .i64) 3 w' w.heap.size (fun _ => True) v3 x3_1) ∧ Aside0 (w'.heap[gb330]? = some (.cells #[(.slice A0_0 l0_0.length c0_0), (.slice A0_1 l0_1.length c0_1)] 26 (0, 0))) ∧ Aside0 (Below w.heap.size w w'))
 case atStart => exact ⟨(y331), (0), (g3_), H', ⟨Nat.le_refl _⟩, ⟨uf1_ HO333⟩, ⟨uf0_ BK330⟩, ⟨qz34_⟩⟩
 case round =>
  clear H'
  try clear p2
  obtain ⟨x3_1, x4_1, rfl, HA, HK1, HO_3, BK330, HB⟩ := hrel
  cases gk with
  | zero => exact absurd HA.out (by simp [spec_OwesOf.l0])
  | succ k1 =>
   have H := HA.out
   clear HA
   simp only [spec_OwesOf.l0] at H
   have HC5 := Aside0.mk H
   clear H
   go_upto_region 3 with (fail)
   go_cut [16] (fun v16 wc => ∃ (kq : Nat) (x16_4 : Bool), v16 = .bool x16_4 ∧ Aside0 (spec_OwesOf.j1 kq x3_1 x4_1 x16_4 l0_0 l0_1 = some r) ∧ Aside0 (kq ≤ k1) ∧ Aside0 (Kd.R (Kd.int .i64) 3 wc w.heap.size (fun _ => True) u3 x3_1) ∧ Aside0 (wc.heap[gb330]? = some (.cells #[(.slice A0_0 l0_0.length c0_0), (.slice A0_1 l0_1.length c0_1)] 26 (0, 0))) ∧ Aside0 (Below w.heap.size w wc))
   case first =>
    have H := HC5.out
    clear HC5
    by_cases c6 : x4_1 < (l0_0.length : Int)
    ·rw [if_pos c6] at H
     have c6b0 := decide_eq_true c6
     clear c6
     (first | rw [c6b0] | (simp only [i64_w, i32_w]; rw [c6b0]) | skip)
     obtain ⟨t334, A7, H⟩ := bind_ H
     have H' := Aside0.mk H
     clear H
     obtain ⟨hcz8_0, hcz8_1, hfz8_0, hfz8_1⟩ := blk2_ BK330
     go_wp2_with (first | (go_at_call 56; (with_reducible refine (spec_BookOk.calls k1 _ _ l0_0 _ _ l0_1 t334 _ ?side1 ?side2 ?side3 ?side4 A7.out).mono ?_); (case side1 => exact uf4_ HR0_0); (case side2 => exact HC0_0.out); (case side3 => exact uf4_ HR0_1); (case side4 => exact HC0_1.out); rintro e w9 ⟨rfl, hb⟩; replace HO_3 := Aside0.mk (Kd.R_below (uf1_ HO_3) hb); replace BK330 := bb_ BK330 hb; replace HB := Aside0.mk (below_step (qz34_) hb); (try clear hb); (try clear hk hi)))
     go_meet
     case rel => exact ⟨_, (t334), (g3_), H', ⟨g30_⟩, ⟨uf1_ HO_3⟩, ⟨uf0_ BK330⟩, ⟨qz34_⟩⟩
    ·rw [if_neg c6] at H
     have c6b0 := decide_eq_false c6
     clear c6
     (first | rw [c6b0] | (simp only [i64_w, i32_w]; rw [c6b0]) | skip)
     have H' := Aside0.mk H
     clear H
     obtain ⟨hcz10_0, hcz10_1, hfz10_0, hfz10_1⟩ := blk2_ BK330
     go_wp2
     go_meet
     case rel => exact ⟨_, (false), (g3_), H', ⟨g30_⟩, ⟨uf1_ HO_3⟩, ⟨uf0_ BK330⟩, ⟨qz34_⟩⟩
   case rest =>
    clear HC5
    try clear p2
    try clear c6
    try clear c6b0
    try clear hcz10_0
    try clear hcz10_1
    try clear hcz8_0
    try clear hcz8_1
    try clear hfz10_0
    try clear hfz10_1
    try clear hfz8_0
    try clear hfz8_1
    try clear p2
    obtain ⟨kq, x16_4, rfl, HA, HJ4, HO_3, BK330, HB⟩ := hcut
    cases kq with
    | zero => exact absurd HA.out (by simp [spec_OwesOf.j1])
    | succ kj4 =>
     have H := HA.out
     clear HA
     simp only [spec_OwesOf.j1] at H
     by_cases c11 : x16_4 = true
     ·subst c11
      replace H := ifp_ H
      have H' := Aside0.mk H
      clear H
      go_wp2
      go_loopg [5, 6] kj4 (fun kq v5 v6 w' => ∃ (x5_3 : Int) (x6_3 : Int), v5 = .int .i64 x5_3 ∧ v6 = .int .i64 x6_3 ∧ Aside0 (spec_OwesOf.l1 kq x3_1 x4_1 x5_3 x6_3 l0_0 l0_1 = some r) ∧ Aside0 (kq ≤ kj4) ∧ Aside0 (Kd.R (Kd.int .i64) 3 w' w.heap.size (fun _ => True) u3 x3_1) ∧ Aside0 (w'.heap[gb330]? = some (.cells #[(.slice A0_0 l0_0.length c0_0), (.slice A0_1 l0_1.length c0_1)] 26 (0, 0))) ∧ Aside0 (Below w.heap.size w w'))
      case atStart => exact ⟨(0), (0), (g3_), (g3_), H', ⟨Nat.le_refl _⟩, ⟨uf1_ HO_3⟩, ⟨uf0_ BK330⟩, ⟨qz34_⟩⟩
      case round =>
       clear H'
       try clear c1
       try clear p2
       try clear c6
       try clear c6b0
       try clear c11
       try clear hcz10_0
       try clear hcz10_1
       try clear hcz8_0
       try clear hcz8_1
       try clear hfz10_0
       try clear hfz10_1
       try clear hfz8_0
       try clear hfz8_1
       try clear p2
       obtain ⟨x5_3, x6_3, rfl, rfl, HA, HK3, HO_3, BK330, HB⟩ := hrel
       cases gk with
       | zero => exact absurd HA.out (by simp [spec_OwesOf.l1])
       | succ k3 =>
        have H := HA.out
        clear HA
        simp only [spec_OwesOf.l1] at H
        by_cases c12 : x6_3 < (l0_0.length : Int)
        ·rw [if_pos c12] at H
         have c12b0 := decide_eq_true c12
         clear c12
         obtain ⟨c13, H⟩ := pos_ H
         have c13b0 := decide_eq_true c13
         clear c13
         obtain ⟨c14, H⟩ := pos_ H
         have c14b0 := decide_eq_true c14
         clear c14
         obtain ⟨c15, H⟩ := pos_ H
         have c15b0 := decide_eq_true c15
         clear c15
         obtain ⟨c16, H⟩ := pos_ H
         have c16b0 := decide_eq_true c16
         clear c16
         have H' := Aside0.mk H
         clear H
         obtain ⟨hcz17_0, hcz17_1, hfz17_0, hfz17_1⟩ := blk2_ BK330
         have p335 : 0 ≤ (x4_1 : Int) := of_decide_eq_true (g1_)
         have q335 : x4_1 < (l0_1.length : Int) := of_decide_eq_true (g1_)
         obtain ⟨ad335, A335_0, c335_0, e335, hx335_0, hl335_0, hi335_0⟩ := at_L2 HR0_1.out x4_1 p335 q335
         cases e335
         replace hx335_0 := cl_ HB hx335_0
         have HR335_0 := Aside0.mk hi335_0
         have HC335_0 := Aside0.mk hl335_0
         clear hi335_0 hl335_0
         replace p335 := eq_true p335
         replace q335 := eq_true q335
         have p336 : 0 ≤ (x6_3 : Int) := of_decide_eq_true (g1_)
         have q336 : x6_3 < ((rd_L2 l0_1 x4_1).length : Int) := of_decide_eq_true (g1_)
         obtain ⟨ad336, e336, hx336_0⟩ := Kd.at_int HR335_0.out x6_3 p336 q336
         cases e336
         replace hx336_0 := cl_ HB hx336_0
         replace p336 := eq_true p336
         replace q336 := eq_true q336
         go_wp2
         go_roundg k3
         case measure => have := HK1.out; have := HJ4.out; have := HK3.out; omega
         case rel => exact ⟨(wrap64 (x5_3 + (rd (rd_L2 l0_1 x4_1) x6_3))), (wrap64 (x6_3 + 1)), (g3_), (g3_), H', ⟨g91_⟩, ⟨uf1_ HO_3⟩, ⟨uf0_ BK330⟩, ⟨qz34_⟩⟩
        ·rw [if_neg c12] at H
         have c12b0 := decide_eq_false c12
         clear c12
         obtain ⟨c18, H⟩ := pos_ H
         have LMc18 := Aside0.mk c18
         clear c18
         obtain ⟨y337, hy337⟩ : ∃ y_ : List Int, y_ = (x3_1 ++ [x5_3]) := ⟨_, rfl⟩
         replace H : (spec_OwesOf.l0 k3 y337 (wrap64 (x4_1 + 1)) l0_0 l0_1) = some r := by first | (rw [hy337]; with_reducible exact H) | (have H2_ := (Option.bind_some _ _).symm.trans H; rw [hy337]; with_reducible exact H2_) | (have H2_ := (Option.bind_some _ _).symm.trans H; with_reducible exact H2_) | with_reducible exact H | (rw [hy337]; exact H) | exact H
         have Ny337 := Aside0.mk hy337
         clear hy337
         have H' := Aside0.mk H
         clear H
         obtain ⟨hcz19_0, hcz19_1, hfz19_0, hfz19_1⟩ := blk2_ BK330
         go_wp2_with (first | ((with_reducible refine gate_builtin (b := .append) (xs := #[.tmp 36, .tmp 38]) rfl ?_); at_builtin; refine Kd.R_append (Kd.int .i64) (w0 := w) w.heap.size rfl (.tmp 36) (.tmp 38) 23 3 (.int .i64 0) 8 rfl Try.underlying23 info3 rfl (by decide) (by omega) u3 x3_1 x5_3 [.int .i64 x5_3] (fun _ => True) (fun _ => False) rfl rfl ?aP (fun _ hk => hk.elim) ?aF ?aO ?aB ?aS ?aL ?_; (case aP => exact rfl); (case aB => exact (qz34_)); (case aF => exact (fun _ _ => trivial)); (case aO => exact (uf1_ HO_3)); (case aS => exact (below_size (qz34_))); (case aL => have := LMc18.out; omega); intro v338 w20 ho hb hg hat; rw [← Ny337.out] at ho; replace BK330 := Aside0.mk (blk_grown (g := gb330) (o := .cells #[.slice A0_0 l0_0.length c0_0, .slice A0_1 l0_1.length c0_1] 26 (0, 0)) (uf0_ BK330) hg (Kd.R_ne HO_3.out BK330.out (by decide))); replace HB := Aside0.mk (hb); have HO339 := Aside0.mk (ho); clear HO_3; clear ho hb hg hat))
         go_roundg k3
         case measure => have := HK1.out; have := HJ4.out; have := HK3.out; omega
         case rel => exact ⟨(y337), (wrap64 (x4_1 + 1)), (g3_), H', ⟨g91_⟩, ⟨uf1_ HO339⟩, ⟨uf0_ BK330⟩, ⟨qz34_⟩⟩
     ·replace c11 := Bool.eq_false_iff.mpr c11
      subst c11
      replace H := ifn_ H
      obtain rfl := Option.some.inj H
      go_wp2
      go_ret
      exact ⟨_, g4_, uf1_ HO_3, qz34_⟩
def spec_AllPaid.l0 : Nat → List Int → List (S36) → Int → Option ((List (S36)))
 | 0, _, _, _ => none
 | k + 1, x3, x4, x5 => if x5 < (x3.length : Int) then (if 0 ≤ x5 then (if x4.length < 8796093022208 then (spec_AllPaid.l0 k x3 (x4 ++ [(⟨rd x3 x5, 1⟩ : S36)]) (wrap64 (x5 + 1))) else (none)) else (none)) else (some x4)
def spec_AllPaid.f (k : Nat) (l0_0 : List Int) (l0_1 : List (List Int)) : Option ((List (S36))) := (spec_OwesOf.f k l0_0 l0_1).bind fun t826 => (spec_AllPaid.l0 k t826 (([] : List (S36))) 0)
theorem spec_AllPaid.mq {p : Prop} (h : p := by
 repeat' first
 | (with_reducible exact ih0 _ _ _)
 | (with_reducible exact spec_OwesOf.mono _ _ _)
 | (with_reducible exact LeO.refl _)
 | (with_reducible exact LeO.none _)
 | (with_reducible refine LeO.ite ?_ ?_)
 | (with_reducible refine LeO.bind ?_ (fun _ => ?_))
 | exact ih0 _ _ _
 | exact spec_OwesOf.mono _ _ _
 | exact LeO.none _
 | refine LeO.ite ?_ ?_
 | refine LeO.bind ?_ (fun _ => ?_)) : p := h
theorem spec_AllPaid.mono_l : ∀ k, (∀ y0 y1 y2, LeO (spec_AllPaid.l0 k y0 y1 y2) (spec_AllPaid.l0 (k + 1) y0 y1 y2))
 | 0 => fun _ _ _ r h => by simp [spec_AllPaid.l0] at h
 | k + 1 => by
  have ih0 := spec_AllPaid.mono_l k
  ·intro y0 y1 y2
   unfold spec_AllPaid.l0
   exact spec_AllPaid.mq
theorem spec_AllPaid.mono : ∀ a0 a1 k, LeO (spec_AllPaid.f k a0 a1) (spec_AllPaid.f (k + 1) a0 a1) := by
 intro a0 a1 k
 have ih0 := spec_AllPaid.mono_l k
 unfold spec_AllPaid.f
 exact spec_AllPaid.mq
theorem qz35_ {p : Prop} (h : p := by repeat (first | (with_reducible first | exact HB.out | apply below_alloc | apply pw_below_drewN | apply below_drew1 | refine below_set ?_ GE825.out) | exact HB.out)) : p := h
set_option maxHeartbeats 8000000 in
set_option maxRecDepth 100000 in
theorem spec_AllPaid.calls (k : Nat) (A0_0 : Option Addr) (c0_0 : Nat) (l0_0 : List Int) (A0_1 : Option Addr) (c0_1 : Nat) (l0_1 : List (List Int)) (r : List (S36)) (w : World) (hr0_0 : Kd.C (Kd.int .i64) w A0_0 l0_0.length l0_0) (hc0_0 : l0_0.length ≤ c0_0) (hr0_1 : Kd.C (Kd.slice 3 (Kd.int .i64)) w A0_1 l0_1.length l0_1) (hc0_1 : l0_1.length ≤ c0_1) (h : spec_AllPaid.f k l0_0 l0_1 = some r) :
  Calls Try.prog 48 #[.agg #[.slice A0_0 l0_0.length c0_0, .slice A0_1 l0_1.length c0_1]] w fun e w' => ∃ v0_ : Value, e = .returned (v0_) ∧ Kd.R k36 36 w' w.heap.size (fun _ => True) v0_ r ∧ Below w.heap.size w w' := by
 have hu26 := Try.underlying26
 have hu36 := Try.underlying36
 have HR0_0 := Aside0.mk hr0_0
 have HC0_0 := Aside0.mk hc0_0
 clear hr0_0 hc0_0
 have HR0_1 := Aside0.mk hr0_1
 have HC0_1 := Aside0.mk hc0_1
 clear hr0_1 hc0_1
 have HB := Aside0.mk (Below.refl w.heap.size w)
 have H : ((spec_OwesOf.f k l0_0 l0_1).bind fun t826 => (spec_AllPaid.l0 k t826 (([] : List (S36))) 0)) = some r := h
 clear h
 obtain ⟨t826, A2, H⟩ := bind_ H
 obtain ⟨y829, hy829⟩ : ∃ y_ : List (S36), y_ = (([] : List (S36))) := ⟨_, rfl⟩
 replace H : (spec_AllPaid.l0 k t826 y829 0) = some r := by first | (rw [hy829]; with_reducible exact H) | (have H2_ := (Option.bind_some _ _).symm.trans H; rw [hy829]; with_reducible exact H2_) | (have H2_ := (Option.bind_some _ _).symm.trans H; with_reducible exact H2_) | with_reducible exact H | (rw [hy829]; exact H) | exact H
 have Ny829 := Aside0.mk hy829
 clear hy829
 have H' := Aside0.mk H
 clear H
 go_enter Try.func48, Try.ntmps48
 go_wp2_with (first | ((with_reducible refine gate_dst (N := 1) rfl ?_); refine bx_ (N := 1) #[.slice A0_0 l0_0.length c0_0, .slice A0_1 l0_1.length c0_1] 26 ?_; intro gb825 hg w3 hbox hb; have BK825 := Aside0.mk (hbox); have GW825 := Aside0.mk ((by rw [hg]; exact (below_size (qz35_)) : w.heap.size ≤ gb825)); have GE825 := Aside0.mk ((by rw [hg]; exact (below_size (qz35_)) : w.heap.size ≤ gb825)); replace HB := Aside0.mk (below_step (qz35_) hb); clear hb hbox hg; obtain ⟨hcz4_0, hcz4_1, hfz4_0, hfz4_1⟩ := blk2_ BK825) | ((with_reducible refine gate_callee (f := 62) rfl ?_); refine goesL_ (some 7) rfl rfl Try.func62 k_ rfl #[.agg #[.slice A0_0 l0_0.length c0_0, .slice A0_1 l0_1.length c0_1]] rfl (g2_) ?_; (with_reducible refine (spec_OwesOf.calls k _ _ l0_0 _ _ l0_1 t826 _ ?side1 ?side2 ?side3 ?side4 A2.out).mono ?_); (case side1 => exact uf4_ HR0_0); (case side2 => exact HC0_0.out); (case side3 => exact uf4_ HR0_1); (case side4 => exact HC0_1.out); rintro e w5 ⟨v827, rfl, ho0, hb⟩; refine ⟨_, rfl, ?_⟩; have HO828 := Aside0.mk (Kd.R_lower ho0 (below_size (qz35_))); replace BK825 := bb_ BK825 hb; replace HB := Aside0.mk (below_step (qz35_) hb); (try clear hb); (try clear hk hi); (try clear ho0)) | ((with_reducible refine gate_dst (N := 8) rfl ?_); refine Kd.R_lit k36 _ 36 ?hg (N := 8) ?hd (xs := ([] : List (S36))) (inner := []) (ok := fun _ => True) (okp := fun _ => True) ?hr ?hp (fun _ hk => hk) trivial (Below.refl _ _) (Nat.le_refl _) (by simp) ?_; (case hd => rfl); (case hg => rfl); (case hr => first | (go_simp; done) | (go_simp; rfl)); (case hp => exact (Reps.none _ _)); intro v830 w6 ho7 hb hg_ hnew_; clear hg_ hnew_; (first | rw [← Ny829.out] at ho7 | (simp only [Int.reduceToNat] at ho7; rw [← Ny829.out] at ho7)); replace HO828 := Aside0.mk (Kd.R_below (uf1_ HO828) hb); have HO831 := Aside0.mk (Kd.R_lower ho7 (below_size (qz35_))); replace BK825 := bb_ BK825 hb; replace HB := Aside0.mk (below_step (qz35_) hb); clear hb ho7))
 go_loopg [4, 5] k (fun kq v4 v5 w' => ∃ (x4_1 : List (S36)) (x5_1 : Int), v5 = .int .i64 x5_1 ∧ Aside0 (spec_AllPaid.l0 kq t826 x4_1 x5_1 = some r) ∧ Aside0 (kq ≤ k) ∧ Aside0 (Kd.R (Kd.int .i64) 3 w' w.heap.size (fun _ => True) v827 t826) ∧ Aside0 (Kd.R k36 36 w' w.heap.size (fun _ => True) v4 x4_1) ∧ Aside0 (w'.heap[gb825]? = some (.cells #[(.slice A0_0 l0_0.length c0_0), (.slice A0_1 l0_1.length c0_1)] 26 (0, 0))) ∧ Aside0 (Below w.heap.size w w'))
 case atStart => exact ⟨(y829), (0), (g3_), H', ⟨Nat.le_refl _⟩, ⟨uf1_ HO828⟩, ⟨uf1_ HO831⟩, ⟨uf0_ BK825⟩, ⟨qz35_⟩⟩
 case round =>
  clear H'
  try clear p2
  try clear c4
  try clear c6
  try clear hcz4_0
  try clear hcz4_1
  try clear hfz4_0
  try clear hfz4_1
  obtain ⟨x4_1, x5_1, rfl, HA, HK1, HO_3, HO_4, BK825, HB⟩ := hrel
  cases gk with
  | zero => exact absurd HA.out (by simp [spec_AllPaid.l0])
  | succ k1 =>
   have H := HA.out
   clear HA
   simp only [spec_AllPaid.l0] at H
   by_cases c8 : x5_1 < (t826.length : Int)
   ·rw [if_pos c8] at H
    have c8b0 := decide_eq_true c8
    clear c8
    obtain ⟨c9, H⟩ := pos_ H
    have c9b0 := decide_eq_true c9
    clear c9
    obtain ⟨c10, H⟩ := pos_ H
    have LMc10 := Aside0.mk c10
    clear c10
    obtain ⟨y833, hy833⟩ : ∃ y_ : List (S36), y_ = (x4_1 ++ [(⟨rd t826 x5_1, 1⟩ : S36)]) := ⟨_, rfl⟩
    replace H : (spec_AllPaid.l0 k1 t826 y833 (wrap64 (x5_1 + 1))) = some r := by first | (rw [hy833]; with_reducible exact H) | (have H2_ := (Option.bind_some _ _).symm.trans H; rw [hy833]; with_reducible exact H2_) | (have H2_ := (Option.bind_some _ _).symm.trans H; with_reducible exact H2_) | with_reducible exact H | (rw [hy833]; exact H) | exact H
    have Ny833 := Aside0.mk hy833
    clear hy833
    have H' := Aside0.mk H
    clear H
    obtain ⟨Ao11, co11, eo11⟩ := Kd.R_slice HO_3.out
    subst eo11
    have p832 : 0 ≤ (x5_1 : Int) := of_decide_eq_true (g1_)
    have q832 : x5_1 < (t826.length : Int) := of_decide_eq_true (g1_)
    obtain ⟨ad832, e832, hx832_0⟩ := Kd.at_int (Kd.R_reads' HO_3.out).2.2 x5_1 p832 q832
    cases e832
    replace p832 := eq_true p832
    replace q832 := eq_true q832
    go_wp2_with (first | ((with_reducible refine gate_builtin (b := .append) (xs := #[.tmp 15, .tmp 21]) rfl ?_); at_builtin; refine Kd.R_append k36 (w0 := w) w.heap.size rfl (.tmp 15) (.tmp 21) 28 36 (.agg #[(.int .i64 0), (.int .i64 0)]) 16 rfl Try.underlying28 info36 rfl (by decide) (by omega) u4 x4_1 (⟨rd t826 x5_1, 1⟩ : S36) [.int .i64 (rd t826 x5_1), .int .i64 1] (fun _ => True) (fun _ => False) rfl rfl ?aP (fun _ hk => hk.elim) ?aF ?aO ?aB ?aS ?aL ?_; (case aP => exact k36_mkM _ _ _ (⟨rd t826 x5_1, 1⟩ : S36)); (case aB => exact (qz35_)); (case aF => exact (fun _ _ => trivial)); (case aO => exact (uf1_ HO_4)); (case aS => exact (below_size (qz35_))); (case aL => have := LMc10.out; omega); intro v834 w12 ho hb hg hat; rw [← Ny833.out] at ho; replace HO_3 := Aside0.mk (Kd.R_over' (uf1_ HO_3) (Kd.R_typed (uf1_ HO_4)) (by decide) hg); replace BK825 := Aside0.mk (blk_grown (g := gb825) (o := .cells #[.slice A0_0 l0_0.length c0_0, .slice A0_1 l0_1.length c0_1] 26 (0, 0)) (uf0_ BK825) hg (Kd.R_ne HO_4.out BK825.out (by decide))); replace HB := Aside0.mk (hb); have HO835 := Aside0.mk (ho); clear HO_4; clear ho hb hg hat))
    go_roundg k1
    case measure => have := HK1.out; omega
    case rel => exact ⟨(y833), (wrap64 (x5_1 + 1)), (g3_), H', ⟨g9_⟩, ⟨uf1_ HO_3⟩, ⟨uf1_ HO835⟩, ⟨uf0_ BK825⟩, ⟨qz35_⟩⟩
   ·rw [if_neg c8] at H
    have c8b0 := decide_eq_false c8
    clear c8
    obtain rfl := Option.some.inj H
    obtain ⟨Ao13, co13, eo13⟩ := Kd.R_slice HO_3.out
    subst eo13
    go_wp2
    go_ret
    exact ⟨_, g4_, uf1_ HO_4, qz35_⟩
def IsS79 (w0 W : World) (g : Nat) (f0 : List Int) (f1 : Int) : Prop := ∃ A0 c0, W.heap[g]? = some (.cells #[.slice A0 f0.length c0, .int .i64 f1] 79 (0, 0)) ∧ w0.heap.size ≤ g ∧ Kd.C (Kd.int .u8) w0 A0 f0.length f0
theorem IsS79.grown {w0 W : World} {g : Nat} {f0 : List Int} {f1 : Int} {W1 : World} {row : Option Nat} (h : IsS79 w0 W g f0 f1) (hw : W.grownBy W1 row) (hne : some g ≠ row) : IsS79 w0 W1 g f0 f1 := by
 obtain ⟨A0, c0, hb, hg, hr0⟩ := h
 exact ⟨A0, c0, blk_grown hb hw hne, hg, hr0⟩
theorem IsS79.own_neN {w0 W : World} {g : Nat} {f0 : List Int} {f1 : Int} {α : Type} {d : Kd α} {e : Nat} {base : Nat} {ok : Nat → Prop} {v : Value} {xs : List α} (h : IsS79 w0 W g f0 f1) (ho : Kd.N d e W base ok v xs) (ht : e ≠ 79) : some g ≠ v.ownBlock := by
 obtain ⟨A0, c0, hb, hg, hr0⟩ := h
 exact Kd.N_ne ho hb ht
theorem IsS79.fresh {w0 W : World} {g : Nat} {f0 : List Int} {f1 : Int} (h : IsS79 w0 W g f0 f1) : ∀ k, W.heap.size ≤ k → k ≠ g := by
 obtain ⟨A0, c0, hb, hg, hr0⟩ := h
 exact Kd.freshB hb
theorem IsS79.kept {w0 W : World} {g : Nat} {f0 : List Int} {f1 : Int} {W1 : World} {S : Nat → Prop} (h : IsS79 w0 W g f0 f1) (hk : Kept W W1 S) (hne : ¬ S g) : IsS79 w0 W1 g f0 f1 := by
 obtain ⟨A0, c0, hb, hg, hr0⟩ := h
 exact ⟨A0, c0, blk_kept hb hk hne, hg, hr0⟩
theorem IsS79.below {w0 W : World} {g : Nat} {f0 : List Int} {f1 : Int} {W1 : World} (h : IsS79 w0 W g f0 f1) (hw : Below W.heap.size W W1) : IsS79 w0 W1 g f0 f1 := h.grown (grown_of_below hw none) (by simp)
theorem IsS79.alloc {w0 W : World} {g : Nat} {f0 : List Int} {f1 : Int} (h : IsS79 w0 W g f0 f1) (o : Obj) : IsS79 w0 (W.alloc o) g f0 f1 := h.below (below_alloc (Below.refl _ _) o)
theorem IsS79.drewN {w0 W : World} {g : Nat} {f0 : List Int} {f1 : Int} (h : IsS79 w0 W g f0 f1) (m : Nat) : IsS79 w0 (W.drewN m) g f0 f1 := h
theorem IsS79.drew {w0 W : World} {g : Nat} {f0 : List Int} {f1 : Int} (h : IsS79 w0 W g f0 f1) : IsS79 w0 W.drew g f0 f1 := h
theorem IsS79.at_ {w0 W : World} {g : Nat} {f0 : List Int} {f1 : Int} {w' : World} {m : Nat} (hq : W.drewN m = w') (h : IsS79 w0 W g f0 f1) : IsS79 w0 w' g f0 f1 := by subst hq; exact IsS79.drewN h m
theorem IsS79.apart {w0 W : World} {g : Nat} {f0 : List Int} {f1 : Int} {α : Type} {d : Kd α} {e : Nat} {base : Nat} {ok : Nat → Prop} {v : Value} {xs : List α} (h : IsS79 w0 W g f0 f1) (ho : d.R e W base ok v xs) (ht : ∀ q, q ∈ e :: d.E → q ≠ 79) : d.R e W base (fun k => ok k ∧ k ≠ g) v xs := by
 obtain ⟨A0, c0, hb, hg, hr0⟩ := h
 exact Kd.R_types ho hb ht
theorem IsS79.own_ne {w0 W : World} {g : Nat} {f0 : List Int} {f1 : Int} {α : Type} {d : Kd α} {e : Nat} {base : Nat} {ok : Nat → Prop} {v : Value} {xs : List α} (h : IsS79 w0 W g f0 f1) (ho : d.R e W base ok v xs) (ht : e ≠ 79) : some g ≠ v.ownBlock := by
 obtain ⟨A0, c0, hb, hg, hr0⟩ := h
 exact Kd.R_ne ho hb ht
theorem IsS79.apartQ {w0 W : World} {g : Nat} {f0 : List Int} {f1 : Int} {α : Type} {d : Kd α} {e : Nat} {base : Nat} {ok : Nat → Prop} {v : Value} {xs : List α} (h : IsS79 w0 W g f0 f1) (ho : d.Q e W base ok v xs) (ht : ∀ q, q ∈ e :: d.E → q ≠ 79) : d.Q e W base (fun k => ok k ∧ k ≠ g) v xs := by
 obtain ⟨A0, c0, hb, hg, hr0⟩ := h
 exact Kd.Q_types ho hb ht
theorem IsS79.own_neQ {w0 W : World} {g : Nat} {f0 : List Int} {f1 : Int} {α : Type} {d : Kd α} {e : Nat} {base : Nat} {ok : Nat → Prop} {v : Value} {xs : List α} (h : IsS79 w0 W g f0 f1) (ho : d.Q e W base ok v xs) (ht : e ≠ 79) : some g ≠ v.ownBlock := by
 obtain ⟨A0, c0, hb, hg, hr0⟩ := h
 exact Kd.Q_ne ho hb ht
theorem IsS79.apartS {w0 W : World} {g : Nat} {f0 : List Int} {f1 : Int} {α : Type} {d : Kd α} {e : Nat} {base : Nat} {ok : Nat → Prop} {v : Value} {xs : List α} (h : IsS79 w0 W g f0 f1) (ho : d.S e W base ok v xs) (ht : ∀ q, q ∈ e :: d.E → q ≠ 79) : d.S e W base (fun k => ok k ∧ k ≠ g) v xs := by
 obtain ⟨A0, c0, hb, hg, hr0⟩ := h
 exact Kd.S_types ho hb ht
theorem IsS79.own_neS {w0 W : World} {g : Nat} {f0 : List Int} {f1 : Int} {α : Type} {d : Kd α} {e : Nat} {base : Nat} {ok : Nat → Prop} {v : Value} {xs : List α} (h : IsS79 w0 W g f0 f1) (ho : d.S e W base ok v xs) (ht : e ≠ 79) : some g ≠ v.ownBlock := by
 obtain ⟨A0, c0, hb, hg, hr0⟩ := h
 exact Kd.S_ne ho hb ht
theorem IsS79.lt {w0 W : World} {g : Nat} {f0 : List Int} {f1 : Int} (h : IsS79 w0 W g f0 f1) : g < W.heap.size := by
 obtain ⟨A0, c0, hb, hg, hr0⟩ := h
 exact blk_lt hb
theorem IsS79.ge {w0 W : World} {g : Nat} {f0 : List Int} {f1 : Int} (h : IsS79 w0 W g f0 f1) : w0.heap.size ≤ g := by
 obtain ⟨A0, c0, hb, hg, hr0⟩ := h
 exact hg
theorem IsS79.ne_blk {w0 W : World} {g : Nat} {f0 : List Int} {f1 : Int} {a : Nat} {cs : Array Value} {t : TypeId} {fr : Nat × Nat} (h : IsS79 w0 W g f0 f1) (hb2 : W.heap[a]? = some (.cells cs t fr)) (ht : t ≠ 79) : g ≠ a := by
 obtain ⟨A0, c0, hb, hg, hr0⟩ := h
 rintro rfl
 rw [hb] at hb2
 injection hb2 with hb2
 injection hb2 with _ ht2
 exact ht ht2.symm
theorem IsS79.far {w0 W : World} {g : Nat} {f0 : List Int} {f1 : Int} {p : Addr} (h : IsS79 w0 W g f0 f1) (hne : g ≠ p.block) (u : Value) : IsS79 w0 (W.setCell p u) g f0 f1 := by
 obtain ⟨A0, c0, hb, hg, hr0⟩ := h
 exact ⟨A0, c0, blk_far hb hne u, hg, hr0⟩
theorem cellS79_0 {W : World} {g : Nat} {A0 : Option Addr} {c0 : Nat} {f0 : List Int} {f1 : Int} (h : W.heap[g]? = some (.cells #[.slice A0 f0.length c0, .int .i64 f1] 79 (0, 0))) : W.cell? ⟨g, 0, none⟩ = some (.slice A0 f0.length c0) := (blk_cell h 0).trans rfl
theorem cellS79_1 {W : World} {g : Nat} {A0 : Option Addr} {c0 : Nat} {f0 : List Int} {f1 : Int} (h : W.heap[g]? = some (.cells #[.slice A0 f0.length c0, .int .i64 f1] 79 (0, 0))) : W.cell? ⟨g, 1, none⟩ = some (.int .i64 f1) := (blk_cell h 1).trans rfl
theorem IsS79.set_1 {w0 W : World} {g : Nat} {f0 : List Int} {f1 : Int} (h : IsS79 w0 W g f0 f1) (x : Int) : IsS79 w0 (W.setCell ⟨g, 1, none⟩ (.int .i64 x)) g f0 x := by
 obtain ⟨A0, c0, hb, hg, hr0⟩ := h
 exact ⟨A0, c0, by simpa using blk_set hb 1 (.int .i64 x), hg, hr0⟩
theorem IsS79.new (w0 W : World) (A0 : Option Addr) (c0 : Nat) (f0 : List Int) (f1 : Int) (hB : Below w0.heap.size w0 W) (hr0 : Kd.C (Kd.int .u8) w0 A0 f0.length f0) : IsS79 w0 (W.alloc (.cells #[.slice A0 f0.length c0, .int .i64 f1] 79)) W.heap.size f0 f1 := ⟨A0, c0, by simpa using heap_alloc_new W _, hB.size, hr0⟩
def spec_l20Rd_pick.j0 : Nat → Int → Bool → List Int → Int → Option (Int × Int)
 | 0, _, _, _, _ => none
 | k + 1, x1, x24, x1000, x1001 => if x24 = true then (some (0, x1001)) else (if (wrap64 (x1001 - 1)) < (x1000.length : Int) then (if 0 ≤ (wrap64 (x1001 - 1)) then (if x1 = 0 then (none) else (some (Int.tmod (wrap64 (rd x1000 (wrap64 (x1001 - 1)))) x1, x1001))) else (none)) else (if (x1000.length : Int) = 0 then (none) else (if 0 ≤ (Int.tmod (wrap64 (x1001 - 1)) (x1000.length : Int)) then (if (Int.tmod (wrap64 (x1001 - 1)) (x1000.length : Int)) < (x1000.length : Int) then (if 0 ≤ (Int.tmod (wrap64 ((wrap64 ((wrap64 (x1001 - 1)) * 7)) + 3)) (x1000.length : Int)) then (if (Int.tmod (wrap64 ((wrap64 ((wrap64 (x1001 - 1)) * 7)) + 3)) (x1000.length : Int)) < (x1000.length : Int) then (if x1 = 0 then (none) else (some (Int.tmod (Go.bits .xor .i64 (wrap64 ((wrap64 ((wrap64 ((wrap64 ((wrap64 (rd x1000 (Int.tmod (wrap64 (x1001 - 1)) (x1000.length : Int)))) * 131)) + (wrap64 ((wrap64 (rd x1000 (Int.tmod (wrap64 ((wrap64 ((wrap64 (x1001 - 1)) * 7)) + 3)) (x1000.length : Int)))) * 1117)))) + (wrap64 ((wrap64 (x1001 - 1)) * 29)))) + (wrap64 ((wrap64 (Int.tdiv (wrap64 (x1001 - 1)) (x1000.length : Int))) * 53)))) (wrap64 (Int.tdiv (wrap64 ((wrap64 ((wrap64 ((wrap64 ((wrap64 (rd x1000 (Int.tmod (wrap64 (x1001 - 1)) (x1000.length : Int)))) * 131)) + (wrap64 ((wrap64 (rd x1000 (Int.tmod (wrap64 ((wrap64 ((wrap64 (x1001 - 1)) * 7)) + 3)) (x1000.length : Int)))) * 1117)))) + (wrap64 ((wrap64 (x1001 - 1)) * 29)))) + (wrap64 ((wrap64 (Int.tdiv (wrap64 (x1001 - 1)) (x1000.length : Int))) * 53)))) 64))) x1, x1001))) else (none)) else (none)) else (none)) else (none))))
def spec_l20Rd_pick.f (k : Nat) (s0_0 : List Int) (s0_1 : Int) (a1 : Int) : Option (Int × Int) := if a1 < 1 then (spec_l20Rd_pick.j0 k a1 true s0_0 (wrap64 (s0_1 + 1))) else (spec_l20Rd_pick.j0 k a1 ((s0_0.length : Int) == 0) s0_0 (wrap64 (s0_1 + 1)))
theorem spec_l20Rd_pick.mq {p : Prop} (h : p := by
 repeat' first
 | (with_reducible exact ih0 _ _ _ _)
 | (with_reducible exact LeO.refl _)
 | (with_reducible exact LeO.none _)
 | (with_reducible refine LeO.ite ?_ ?_)
 | (with_reducible refine LeO.bind ?_ (fun _ => ?_))
 | exact ih0 _ _ _ _
 | exact LeO.none _
 | refine LeO.ite ?_ ?_
 | refine LeO.bind ?_ (fun _ => ?_)) : p := h
theorem spec_l20Rd_pick.mono_l : ∀ k, (∀ y0 y1 y2 y3, LeO (spec_l20Rd_pick.j0 k y0 y1 y2 y3) (spec_l20Rd_pick.j0 (k + 1) y0 y1 y2 y3))
 | 0 => fun _ _ _ _ r h => by simp [spec_l20Rd_pick.j0] at h
 | k + 1 => by
  have ih0 := spec_l20Rd_pick.mono_l k
  ·intro y0 y1 y2 y3
   unfold spec_l20Rd_pick.j0
   exact spec_l20Rd_pick.mq
theorem spec_l20Rd_pick.mono : ∀ a0 a1 a2 k, LeO (spec_l20Rd_pick.f k a0 a1 a2) (spec_l20Rd_pick.f (k + 1) a0 a1 a2) := by
 intro a0 a1 a2 k
 have ih0 := spec_l20Rd_pick.mono_l k
 unfold spec_l20Rd_pick.f
 exact spec_l20Rd_pick.mq
theorem qz36_ {p : Prop} (h : p := by repeat (first | (with_reducible first | exact HI0.out | apply IsS79.alloc | apply IsS79.drewN | apply IsS79.drew | apply IsS79.set_1) | exact HI0.out)) : p := h
theorem qz37_ {p : Prop} (h : p := by repeat (first | (with_reducible first | exact HK.out | apply KeepBut.set_ | apply keep_drewN | apply keep_drew | apply keep_alloc) | exact HK.out)) : p := h
theorem qz38_ {p : Prop} (h : p := by repeat (first | (with_reducible first | exact HB.out | apply below_alloc | apply pw_below_drewN | apply below_drew1 | refine below_set ?_ (IsS79.ge HI0.out)) | exact HB.out)) : p := h
set_option maxHeartbeats 8000000 in
set_option maxRecDepth 100000 in
theorem spec_l20Rd_pick.calls (k : Nat) (g : Nat) (s0_0 : List Int) (s0_1 : Int) (a1 : Int) (r1 : Int) (r2 : Int) (w0 w : World) (hI : IsS79 w0 w g s0_0 s0_1) (hB : Below w0.heap.size w0 w) (h : spec_l20Rd_pick.f k s0_0 s0_1 a1 = some (r1, r2)) :
  Calls Try.prog 87 #[.pointer (some ⟨g, 0, none⟩), .int .i64 a1] w fun e w' => e = .returned (.int .i64 r1) ∧ IsS79 w0 w' g s0_0 r2 ∧ Below w0.heap.size w0 w' ∧ KeepBut w w' g none := by
 have HI0 := Aside0.mk hI
 have HK := Aside0.mk (KeepBut.refl w g none)
 have HL := Aside0.mk hB.size
 clear hI
 have HW0 := Aside0.mk hB.size
 have HB := Aside0.mk hB
 clear hB
 have H : (if a1 < 1 then (spec_l20Rd_pick.j0 k a1 true s0_0 (wrap64 (s0_1 + 1))) else (spec_l20Rd_pick.j0 k a1 ((s0_0.length : Int) == 0) s0_0 (wrap64 (s0_1 + 1)))) = some (r1, r2) := h
 clear h
 have HC3 := Aside0.mk H
 clear H
 obtain ⟨ASz4_0, cSz4_0, HGz4, hgz4, HSz4_0⟩ := HI0.out
 have hcz4_0 := cellS79_0 HGz4
 have hcz4_1 := cellS79_1 HGz4
 have hfz4_1 := blk_frozen HGz4 1
 clear HGz4 hgz4
 go_enter Try.func87, Try.ntmps87
 go_upto_region 2 with (fail)
 repeat (go_quiet (fail); go_upto_region 2 with (fail))
 go_cut [24] (fun v24 wc => ∃ (kq : Nat) (x24_2 : Bool), v24 = .bool x24_2 ∧ Aside0 (spec_l20Rd_pick.j0 kq a1 x24_2 s0_0 (wrap64 (s0_1 + 1)) = some (r1, r2)) ∧ Aside0 (kq ≤ k) ∧ Aside0 (IsS79 w0 wc g s0_0 (wrap64 (s0_1 + 1))) ∧ Aside0 (KeepBut w wc g none) ∧ Aside0 (Below w0.heap.size w0 wc))
 case first =>
  have H := HC3.out
  clear HC3
  by_cases c5 : a1 < 1
  ·rw [if_pos c5] at H
   have c5b0 := decide_eq_true c5
   clear c5
   (first | rw [c5b0] | (simp only [i64_w, i32_w]; rw [c5b0]) | skip)
   have H' := Aside0.mk H
   clear H
   go_wp2
   repeat (go_quiet (fail); try go_wp2)
   go_meet
   case rel => exact ⟨_, (true), (g3_), H', ⟨g13_⟩, ⟨qz36_⟩, ⟨qz37_⟩, ⟨qz38_⟩⟩
  ·rw [if_neg c5] at H
   have c5b0 := decide_eq_false c5
   clear c5
   (first | rw [c5b0] | (simp only [i64_w, i32_w]; rw [c5b0]) | skip)
   have H' := Aside0.mk H
   clear H
   obtain ⟨ASz6_0, cSz6_0, HGz6, hgz6, HSz6_0⟩ := HI0.out
   have hcz6_0 := cellS79_0 HGz6
   have hcz6_1 := cellS79_1 HGz6
   have hfz6_1 := blk_frozen HGz6 1
   clear HGz6 hgz6
   go_wp2
   repeat (go_quiet (fail); try go_wp2)
   go_meet
   case rel => exact ⟨_, (((s0_0.length : Int) == 0)), (g3_), H', ⟨g13_⟩, ⟨qz36_⟩, ⟨qz37_⟩, ⟨qz38_⟩⟩
 case rest =>
  clear HC3
  try clear p2
  try clear c5
  try clear c5b0
  try clear p6
  try clear hcz4_0
  try clear hcz4_1
  try clear hcz6_0
  try clear hcz6_1
  try clear hfz4_1
  try clear hfz6_1
  obtain ⟨kq, x24_2, rfl, HA, HJ2, HI0, HK, HB⟩ := hcut
  cases kq with
  | zero => exact absurd HA.out (by simp [spec_l20Rd_pick.j0])
  | succ kj2 =>
   have H := HA.out
   clear HA
   simp only [spec_l20Rd_pick.j0] at H
   by_cases c7 : x24_2 = true
   ·subst c7
    replace H := ifp_ H
    simp only [Option.some.injEq, Prod.mk.injEq] at H
    obtain ⟨rfl, rfl⟩ := H
    go_wp2
    repeat (go_quiet (fail); try go_wp2)
    go_ret
    exact ⟨g4_, qz36_, qz38_, qz37_⟩
   ·replace c7 := Bool.eq_false_iff.mpr c7
    subst c7
    replace H := ifn_ H
    by_cases c8 : (wrap64 ((wrap64 (s0_1 + 1)) - 1)) < (s0_0.length : Int)
    ·rw [if_pos c8] at H
     have c8b0 := decide_eq_true c8
     clear c8
     obtain ⟨ji9, hji9⟩ : ∃ j_ : Int, (wrap64 ((wrap64 (s0_1 + 1)) - 1)) = j_ := ⟨_, rfl⟩
     replace H : (if 0 ≤ (ji9) then (if a1 = 0 then (none) else (some (Int.tmod (wrap64 (rd s0_0 (ji9))) a1, (wrap64 (s0_1 + 1))))) else (none)) = some (r1, r2) := by first | (rw [hji9] at H; exact H) | (simp only [hji9] at H ⊢; exact H)
     (try rw [hji9] at c8b0)
     have hji9w : (IntKind.i64.wrap ((wrap64 (s0_1 + 1)) - 1)) = ji9 := (i64_w _).trans hji9
     obtain ⟨c10, H⟩ := pos_ H
     have c10b0 := decide_eq_true c10
     clear c10
     by_cases c11 : a1 = 0
     ·rw [if_pos c11] at H
      exact absurd H (by simp)
     ·rw [if_neg c11] at H
      have c11b0 : (a1 == 0) = false := beq_eq_false_iff_ne.mpr c11
      have c11b1 : (a1 != 0) = true := bne_iff_ne.mpr c11
      simp only [Option.some.injEq, Prod.mk.injEq] at H
      obtain ⟨rfl, rfl⟩ := H
      obtain ⟨ASz12_0, cSz12_0, HGz12, hgz12, HSz12_0⟩ := HI0.out
      have hcz12_0 := cellS79_0 HGz12
      have hcz12_1 := cellS79_1 HGz12
      have hfz12_1 := blk_frozen HGz12 1
      clear HGz12 hgz12
      have p101 : 0 ≤ ((ji9) : Int) := of_decide_eq_true (g1_)
      have q101 : (ji9) < (s0_0.length : Int) := of_decide_eq_true (g1_)
      obtain ⟨ad101, e101, hx101_0⟩ := Kd.at_int HSz12_0 (ji9) p101 q101
      cases e101
      replace hx101_0 := pw_cell_below HB.out hx101_0
      replace p101 := eq_true p101
      replace q101 := eq_true q101
      go_wp2
      repeat (go_quiet (fail); try go_wp2)
      go_ret
      exact ⟨by first | rfl | (simp [errW_none, errW_some] <;> rfl) | (simp only [← hji9]; first | rfl | (simp [errW_none, errW_some] <;> rfl)) | (simp [*, errW_none, errW_some] <;> rfl), qz36_, qz38_, qz37_⟩
    ·rw [if_neg c8] at H
     have c8b0 := decide_eq_false c8
     clear c8
     by_cases c13 : (s0_0.length : Int) = 0
     ·rw [if_pos c13] at H
      exact absurd H (by simp)
     ·rw [if_neg c13] at H
      have c13b0 : ((s0_0.length : Int) == 0) = false := beq_eq_false_iff_ne.mpr c13
      have c13b1 : ((s0_0.length : Int) != 0) = true := bne_iff_ne.mpr c13
      have c13b2 : ¬ (s0_0 = []) := fun h_ => c13 (g46_)
      obtain ⟨ji14, hji14⟩ : ∃ j_ : Int, (Int.tmod (wrap64 ((wrap64 (s0_1 + 1)) - 1)) (s0_0.length : Int)) = j_ := ⟨_, rfl⟩
      replace H : (if 0 ≤ (ji14) then (if (ji14) < (s0_0.length : Int) then (if 0 ≤ (Int.tmod (wrap64 ((wrap64 ((wrap64 ((wrap64 (s0_1 + 1)) - 1)) * 7)) + 3)) (s0_0.length : Int)) then (if (Int.tmod (wrap64 ((wrap64 ((wrap64 ((wrap64 (s0_1 + 1)) - 1)) * 7)) + 3)) (s0_0.length : Int)) < (s0_0.length : Int) then (if a1 = 0 then (none) else (some (Int.tmod (Go.bits .xor .i64 (wrap64 ((wrap64 ((wrap64 ((wrap64 ((wrap64 (rd s0_0 (ji14))) * 131)) + (wrap64 ((wrap64 (rd s0_0 (Int.tmod (wrap64 ((wrap64 ((wrap64 ((wrap64 (s0_1 + 1)) - 1)) * 7)) + 3)) (s0_0.length : Int)))) * 1117)))) + (wrap64 ((wrap64 ((wrap64 (s0_1 + 1)) - 1)) * 29)))) + (wrap64 ((wrap64 (Int.tdiv (wrap64 ((wrap64 (s0_1 + 1)) - 1)) (s0_0.length : Int))) * 53)))) (wrap64 (Int.tdiv (wrap64 ((wrap64 ((wrap64 ((wrap64 ((wrap64 (rd s0_0 (ji14))) * 131)) + (wrap64 ((wrap64 (rd s0_0 (Int.tmod (wrap64 ((wrap64 ((wrap64 ((wrap64 (s0_1 + 1)) - 1)) * 7)) + 3)) (s0_0.length : Int)))) * 1117)))) + (wrap64 ((wrap64 ((wrap64 (s0_1 + 1)) - 1)) * 29)))) + (wrap64 ((wrap64 (Int.tdiv (wrap64 ((wrap64 (s0_1 + 1)) - 1)) (s0_0.length : Int))) * 53)))) 64))) a1, (wrap64 (s0_1 + 1))))) else (none)) else (none)) else (none)) else (none)) = some (r1, r2) := by first | (rw [hji14] at H; exact H) | (simp only [hji14] at H ⊢; exact H)
      obtain ⟨c15, H⟩ := pos_ H
      have c15b0 := decide_eq_true c15
      clear c15
      obtain ⟨c16, H⟩ := pos_ H
      have c16b0 := decide_eq_true c16
      clear c16
      obtain ⟨ji17, hji17⟩ : ∃ j_ : Int, (Int.tmod (wrap64 ((wrap64 ((wrap64 ((wrap64 (s0_1 + 1)) - 1)) * 7)) + 3)) (s0_0.length : Int)) = j_ := ⟨_, rfl⟩
      replace H : (if 0 ≤ (ji17) then (if (ji17) < (s0_0.length : Int) then (if a1 = 0 then (none) else (some (Int.tmod (Go.bits .xor .i64 (wrap64 ((wrap64 ((wrap64 ((wrap64 ((wrap64 (rd s0_0 (ji14))) * 131)) + (wrap64 ((wrap64 (rd s0_0 (ji17))) * 1117)))) + (wrap64 ((wrap64 ((wrap64 (s0_1 + 1)) - 1)) * 29)))) + (wrap64 ((wrap64 (Int.tdiv (wrap64 ((wrap64 (s0_1 + 1)) - 1)) (s0_0.length : Int))) * 53)))) (wrap64 (Int.tdiv (wrap64 ((wrap64 ((wrap64 ((wrap64 ((wrap64 (rd s0_0 (ji14))) * 131)) + (wrap64 ((wrap64 (rd s0_0 (ji17))) * 1117)))) + (wrap64 ((wrap64 ((wrap64 (s0_1 + 1)) - 1)) * 29)))) + (wrap64 ((wrap64 (Int.tdiv (wrap64 ((wrap64 (s0_1 + 1)) - 1)) (s0_0.length : Int))) * 53)))) 64))) a1, (wrap64 (s0_1 + 1))))) else (none)) else (none)) = some (r1, r2) := by first | (rw [hji17] at H; exact H) | (simp only [hji17] at H ⊢; exact H)
      obtain ⟨c18, H⟩ := pos_ H
      have c18b0 := decide_eq_true c18
      clear c18
      obtain ⟨c19, H⟩ := pos_ H
      have c19b0 := decide_eq_true c19
      clear c19
      by_cases c20 : a1 = 0
      ·rw [if_pos c20] at H
       exact absurd H (by simp)
      ·rw [if_neg c20] at H
       have c20b0 : (a1 == 0) = false := beq_eq_false_iff_ne.mpr c20
       have c20b1 : (a1 != 0) = true := bne_iff_ne.mpr c20
       simp only [Option.some.injEq, Prod.mk.injEq] at H
       obtain ⟨rfl, rfl⟩ := H
       obtain ⟨ASz21_0, cSz21_0, HGz21, hgz21, HSz21_0⟩ := HI0.out
       have hcz21_0 := cellS79_0 HGz21
       have hcz21_1 := cellS79_1 HGz21
       have hfz21_1 := blk_frozen HGz21 1
       clear HGz21 hgz21
       have p102 : 0 ≤ ((ji14) : Int) := of_decide_eq_true (g1_)
       have q102 : (ji14) < (s0_0.length : Int) := of_decide_eq_true (g1_)
       obtain ⟨ad102, e102, hx102_0⟩ := Kd.at_int HSz21_0 (ji14) p102 q102
       cases e102
       replace hx102_0 := pw_cell_below HB.out hx102_0
       replace p102 := eq_true p102
       replace q102 := eq_true q102
       have p103 : 0 ≤ ((ji17) : Int) := of_decide_eq_true (g1_)
       have q103 : (ji17) < (s0_0.length : Int) := of_decide_eq_true (g1_)
       obtain ⟨ad103, e103, hx103_0⟩ := Kd.at_int HSz21_0 (ji17) p103 q103
       obtain rfl : ad102 = ad103 := (by injection e103)
       replace hx103_0 := pw_cell_below HB.out hx103_0
       replace p103 := eq_true p103
       replace q103 := eq_true q103
       go_wp2
       repeat (go_quiet (fail); try go_wp2)
       go_ret
       exact ⟨by first | rfl | (simp [errW_none, errW_some] <;> rfl) | (simp only [← hji14, ← hji17]; first | rfl | (simp [errW_none, errW_some] <;> rfl)) | (simp [*, errW_none, errW_some] <;> rfl), qz36_, qz38_, qz37_⟩
def spec_l20Open.f (l0 : List Int) : Option (List Int × Int) := if (l0.length : Int) > 2000 then (if 2000 ≤ (l0.length : Int) then (some (l0.take 2000, 0)) else (none)) else (some (l0, 0))
theorem qz39_ {p : Prop} (h : p := by repeat (first | (with_reducible first | exact HB.out | apply below_alloc | apply pw_below_drewN | apply below_drew1 | refine below_set ?_ GE157.out | refine below_set ?_ GE158.out) | exact HB.out)) : p := h
theorem qz15_ {p : Prop} (h : p := by repeat (first | (with_reducible first | exact HBW.out | apply below_alloc | apply pw_below_drewN | apply below_drew1 | refine below_set ?_ GW157.out | refine below_set ?_ GW158.out) | exact HBW.out)) : p := h
set_option maxHeartbeats 8000000 in
set_option maxRecDepth 100000 in
theorem spec_l20Open.calls (A0 : Option Addr) (c0 : Nat) (l0 : List Int) (r1 : List Int) (r2 : Int) (w0 w : World) (hB : Below w0.heap.size w0 w) (hr0 : Kd.C (Kd.int .u8) w0 A0 l0.length l0) (hc0 : l0.length ≤ c0) (h : spec_l20Open.f l0 = some (r1, r2)) :
  Calls Try.prog 53 #[.slice A0 l0.length c0] w fun e w' => ∃ g_ : Nat, e = .returned (.pointer (some ⟨g_, 0, none⟩)) ∧ IsS79 w0 w' g_ r1 r2 ∧ Below w0.heap.size w0 w' ∧ Below w.heap.size w w' := by
 have hu79 := Try.underlying79
 have HR0 := Aside0.mk hr0
 have HC0 := Aside0.mk hc0
 clear hr0 hc0
 have HBW := Aside0.mk (Below.refl w.heap.size w)
 have HW0 := Aside0.mk hB.size
 have HB := Aside0.mk hB
 clear hB
 have H : (if (l0.length : Int) > 2000 then (if 2000 ≤ (l0.length : Int) then (some (l0.take 2000, 0)) else (none)) else (some (l0, 0))) = some (r1, r2) := h
 clear h
 by_cases c2 : (l0.length : Int) > 2000
 ·rw [if_pos c2] at H
  have c2b0 := decide_eq_true c2
  have c2b1 : decide (2000 < l0.length) = true := decide_eq_true (by omega)
  clear c2
  obtain ⟨c3, H⟩ := pos_ H
  have c3b0 := eq_true c3
  have c3b1 := decide_eq_true c3
  clear c3
  simp only [Option.some.injEq, Prod.mk.injEq] at H
  obtain ⟨rfl, rfl⟩ := H
  obtain ⟨i04, hi04, _, hsz4, _⟩ := info_parts info5
  obtain ⟨hcut4, hA4, hC4⟩ := print_take_of (P := Try.prog) (Value.int .u8) 0 22 5 .i64 Try.underlying22 hi04 hsz4 A0 c0 l0 2000 (by omega) (of_decide_eq_true (g1_)) HC0.out
  have HR156 := Aside0.mk (Kd.C_of_reads (h1 := fun _ => rfl) (hA4 _ (Kd.reads_of_C HR0.out)))
  have HC156 := Aside0.mk hC4
  clear hA4 hC4 hi04 hsz4
  go_enter Try.func53, Try.ntmps53
  go_wp2_with (first | ((with_reducible refine gate_dst (N := 10) rfl ?_); refine bx_ (N := 10) #[.slice A0 (l0.take 2000).length c0, .int .i64 0] 79 ?_; intro gb157 hg w5 hbox hb; replace HB := Aside0.mk (below_step (qz39_) hb); have BK157 := Aside0.mk (hbox); have GW157 := Aside0.mk ((g85_ : w.heap.size ≤ gb157)); have GE157 := Aside0.mk ((Nat.le_trans HW0.out (g85_ : w.heap.size ≤ gb157) : w0.heap.size ≤ gb157)); replace HBW := Aside0.mk (below_step HBW.out hb); clear hb hbox hg))
  go_ret
  exact ⟨_, rfl, (show IsS79 w0 _ gb157 (l0.take 2000) 0 from ⟨_, _, uf0_ BK157, GE157.out, HR156.out⟩), qz39_, qz15_⟩
 ·rw [if_neg c2] at H
  have c2b0 := decide_eq_false c2
  have c2b1 : decide (2000 < l0.length) = false := decide_eq_false (by omega)
  clear c2
  simp only [Option.some.injEq, Prod.mk.injEq] at H
  obtain ⟨rfl, rfl⟩ := H
  go_enter Try.func53, Try.ntmps53
  go_wp2_with (first | ((with_reducible refine gate_dst (N := 10) rfl ?_); refine bx_ (N := 10) #[.slice A0 l0.length c0, .int .i64 0] 79 ?_; intro gb158 hg w6 hbox hb; replace HB := Aside0.mk (below_step (qz39_) hb); have BK158 := Aside0.mk (hbox); have GW158 := Aside0.mk ((g85_ : w.heap.size ≤ gb158)); have GE158 := Aside0.mk ((Nat.le_trans HW0.out (g85_ : w.heap.size ≤ gb158) : w0.heap.size ≤ gb158)); replace HBW := Aside0.mk (below_step HBW.out hb); clear hb hbox hg))
  go_ret
  exact ⟨_, rfl, (show IsS79 w0 _ gb158 l0 0 from ⟨_, _, uf0_ BK158, GE158.out, HR0.out⟩), qz39_, qz15_⟩
def spec_l20Rd_odd.f (k : Nat) (s0_0 : List Int) (s0_1 : Int) (a1 : Int) : Option (Bool × Int) := if a1 > 0 then ((spec_l20Rd_pick.f k s0_0 s0_1 a1).bind fun bt104 => (some ((bt104.1 == (wrap64 (a1 - 1))), bt104.2))) else (some (false, s0_1))
theorem spec_l20Rd_odd.mq {p : Prop} (h : p := by
 repeat' first
 | (with_reducible exact spec_l20Rd_pick.mono _ _ _ _)
 | (with_reducible exact LeO.refl _)
 | (with_reducible exact LeO.none _)
 | (with_reducible refine LeO.ite ?_ ?_)
 | (with_reducible refine LeO.bind ?_ (fun _ => ?_))
 | exact spec_l20Rd_pick.mono _ _ _ _
 | exact LeO.none _
 | refine LeO.ite ?_ ?_
 | refine LeO.bind ?_ (fun _ => ?_)) : p := h
theorem spec_l20Rd_odd.mono : ∀ a0 a1 a2 k, LeO (spec_l20Rd_odd.f k a0 a1 a2) (spec_l20Rd_odd.f (k + 1) a0 a1 a2) := by
 intro a0 a1 a2 k
 unfold spec_l20Rd_odd.f
 exact spec_l20Rd_odd.mq
theorem qz40_ {p : Prop} (h : p := by repeat (first | (with_reducible first | exact HI0.out | apply IsS79.alloc | apply IsS79.drewN | apply IsS79.drew | apply IsS79.set_1) | exact HI0.out)) : p := h
theorem qz41_ {p : Prop} (h : p := by repeat (first | (with_reducible first | exact HB.out | apply below_alloc | apply pw_below_drewN | apply below_drew1 | refine below_set ?_ (IsS79.ge HI0.out)) | exact HB.out)) : p := h
theorem qz42_ {p : Prop} (h : p := by repeat (first | (with_reducible first | exact HK.out | apply KeepBut.set_ | apply keep_drewN | apply keep_drew | apply keep_alloc) | exact HK.out)) : p := h
set_option maxHeartbeats 8000000 in
set_option maxRecDepth 100000 in
theorem spec_l20Rd_odd.calls (k : Nat) (g : Nat) (s0_0 : List Int) (s0_1 : Int) (a1 : Int) (r1 : Bool) (r2 : Int) (w0 w : World) (hI : IsS79 w0 w g s0_0 s0_1) (hB : Below w0.heap.size w0 w) (h : spec_l20Rd_odd.f k s0_0 s0_1 a1 = some (r1, r2)) :
  Calls Try.prog 88 #[.pointer (some ⟨g, 0, none⟩), .int .i64 a1] w fun e w' => e = .returned (.bool r1) ∧ IsS79 w0 w' g s0_0 r2 ∧ Below w0.heap.size w0 w' ∧ KeepBut w w' g none := by
 have HI0 := Aside0.mk hI
 have HK := Aside0.mk (KeepBut.refl w g none)
 have HL := Aside0.mk hB.size
 clear hI
 have HW0 := Aside0.mk hB.size
 have HB := Aside0.mk hB
 clear hB
 have H : (if a1 > 0 then ((spec_l20Rd_pick.f k s0_0 s0_1 a1).bind fun bt104 => (some ((bt104.1 == (wrap64 (a1 - 1))), bt104.2))) else (some (false, s0_1))) = some (r1, r2) := h
 clear h
 by_cases c3 : a1 > 0
 ·rw [if_pos c3] at H
  have c3b0 := decide_eq_true c3
  clear c3
  replace H := Option.bind_eq_some_iff.mp H
  obtain ⟨⟨t104, t105⟩, A40, H⟩ := H
  replace H : (some ((t104 == (wrap64 (a1 - 1))), t105)) = some (r1, r2) := H
  have A4 := Aside0.mk A40
  clear A40
  simp only [Option.some.injEq, Prod.mk.injEq] at H
  obtain ⟨rfl, rfl⟩ := H
  go_enter Try.func88, Try.ntmps88
  go_wp2_with (first | (go_at_call 87; (with_reducible refine (spec_l20Rd_pick.calls k g s0_0 s0_1 a1 t104 t105 w0 _ ?side1 ?side2 A4.out).mono ?_); (case side1 => exact qz40_); (case side2 => exact qz41_); rintro e w5 ⟨rfl, hi, hb, hk⟩; replace HK := Aside0.mk (KeepBut.trans (qz42_) hk (.inl rfl)); replace HB := Aside0.mk (hb); replace HI0 := Aside0.mk (hi); (try clear hb); (try clear hk hi)))
  go_ret
  exact ⟨g4_, qz40_, qz41_, qz42_⟩
 ·rw [if_neg c3] at H
  have c3b0 := decide_eq_false c3
  clear c3
  simp only [Option.some.injEq, Prod.mk.injEq] at H
  obtain ⟨rfl, rfl⟩ := H
  go_enter Try.func88, Try.ntmps88
  go_wp2
  go_ret
  exact ⟨g4_, qz40_, qz41_, qz42_⟩
end Go.Proofs.Ytigpmfoagkhaeaa.PU
