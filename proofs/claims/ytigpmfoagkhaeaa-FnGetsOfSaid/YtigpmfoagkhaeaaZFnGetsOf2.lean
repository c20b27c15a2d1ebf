/- FnGetsOf: for every input the law holds. No condition. -/
import Derived.Test.YtigpmfoagkhaeaaZFnGetsOf1
import Derived.Below
import Derived.Deep.Draws
import Derived.Deep.AppendLies
import Derived.Maps.AppendAt
import Derived.OwnWalk
import Derived.Laws.BytesArg
import Derived.Laws.MakeOwn
import Derived.Laws.OwnMore
import Derived.Deep.OwnRows
import Derived.Tactics
import Derived.Lib.ConvBytes
import Derived.Laws.Slices
import Derived.WalkKit
import Derived.KernelRfl
import Derived.RowKit3
import Derived.Deep.LoopGhost
import Derived.Deep.QuietTactic
import Derived.BigQuiet
import Derived.WideLaws
import Derived.Deep.DeepCutAuto
import Derived.Deep.CutBlock
import Derived.Deep.RegionHeld3
import Derived.Laws.Rows
import Derived.Lib.AppendStr
import Derived.ArgAppend
import Derived.Laws.IdiomCopy
import Derived.RowKit
import Derived.OrdersHeld
import Derived.Laws.BitsLemmas
import Derived.Laws.StructEq
import Derived.Test.YtigpmfoagkhaeaaProg
namespace Go.Proofs.Ytigpmfoagkhaeaa.PU
open Go.RowKit Go.Proofs.YtigpmfoagkhaeaaW.PrintWords Go.Proofs.YtigpmfoagkhaeaaW.PrintLast Go.Proofs.YtigpmfoagkhaeaaW.PrintMore Go.Proofs.Ytigpmfoagkhaeaa.Qd
attribute [local go_sem] max2_int min2_int max_two min_two max_three min_three max_four min_four   -- for this text's walks alone
set_option linter.unusedVariables false
set_option linter.unusedSimpArgs false
def cmp_Compare_int.f (a0 : Int) (a1 : Int) : Option (Int) := (cmp_isNaN_int.f a0).bind fun t221 => ((cmp_isNaN_int.f a1).bind fun t222 => (if t221 = true then (if t222 = true then (some 0) else (some (-1))) else (if t222 = true then (some 1) else (if a0 < a1 then (some (-1)) else (if a0 > a1 then (some 1) else (some 0))))))
set_option maxHeartbeats 8000000 in
set_option maxRecDepth 100000 in
theorem cmp_Compare_int.calls (a0 : Int) (a1 : Int) (r : Int) (w : World) (h : cmp_Compare_int.f a0 a1 = some r) :
  Calls Try.prog 98 #[.int .i64 a0, .int .i64 a1] w fun e w' => e = .returned (.int .i64 r) ∧ Drawn0 w w' := by
 have H : ((cmp_isNaN_int.f a0).bind fun t221 => ((cmp_isNaN_int.f a1).bind fun t222 => (if t221 = true then (if t222 = true then (some 0) else (some (-1))) else (if t222 = true then (some 1) else (if a0 < a1 then (some (-1)) else (if a0 > a1 then (some 1) else (some 0))))))) = some r := h
 clear h
 obtain ⟨t221, A3, H⟩ := bind_ H
 obtain ⟨t222, A4, H⟩ := bind_ H
 by_cases c5 : t221 = true
 ·subst c5
  replace H := ifp_ H
  by_cases c6 : t222 = true
  ·subst c6
   replace H := ifp_ H
   obtain rfl := Option.some.inj H
   go_enter Try.func98, Try.ntmps98
   go_wp2_with (first | ((with_reducible refine gate_callee (f := 101) rfl ?_); refine goesL_ (some 8) rfl rfl Try.func101 k_ rfl #[.int .i64 a0] rfl (g2_) ?_; (with_reducible refine (cmp_isNaN_int.calls a0 true _ A3.out).mono ?_); rintro e w' ⟨rfl, ⟨nd, rfl⟩⟩; refine ⟨_, rfl, ?_⟩) | ((with_reducible refine gate_callee (f := 101) rfl ?_); refine goesL_ (some 10) rfl rfl Try.func101 k_ rfl #[.int .i64 a1] rfl (g2_) ?_; (with_reducible refine (cmp_isNaN_int.calls a1 true _ A4.out).mono ?_); rintro e w' ⟨rfl, ⟨nd, rfl⟩⟩; refine ⟨_, rfl, ?_⟩))
   go_ret
   exact ⟨g3_, g5_⟩
  ·replace c6 := Bool.eq_false_iff.mpr c6
   subst c6
   replace H := ifn_ H
   obtain rfl := Option.some.inj H
   go_enter Try.func98, Try.ntmps98
   go_wp2_with (first | ((with_reducible refine gate_callee (f := 101) rfl ?_); refine goesL_ (some 8) rfl rfl Try.func101 k_ rfl #[.int .i64 a0] rfl (g2_) ?_; (with_reducible refine (cmp_isNaN_int.calls a0 true _ A3.out).mono ?_); rintro e w' ⟨rfl, ⟨nd, rfl⟩⟩; refine ⟨_, rfl, ?_⟩) | ((with_reducible refine gate_callee (f := 101) rfl ?_); refine goesL_ (some 10) rfl rfl Try.func101 k_ rfl #[.int .i64 a1] rfl (g2_) ?_; (with_reducible refine (cmp_isNaN_int.calls a1 false _ A4.out).mono ?_); rintro e w' ⟨rfl, ⟨nd, rfl⟩⟩; refine ⟨_, rfl, ?_⟩))
   go_ret
   exact ⟨g3_, g5_⟩
 ·replace c5 := Bool.eq_false_iff.mpr c5
  subst c5
  replace H := ifn_ H
  by_cases c7 : t222 = true
  ·subst c7
   replace H := ifp_ H
   obtain rfl := Option.some.inj H
   go_enter Try.func98, Try.ntmps98
   go_wp2_with (first | ((with_reducible refine gate_callee (f := 101) rfl ?_); refine goesL_ (some 8) rfl rfl Try.func101 k_ rfl #[.int .i64 a0] rfl (g2_) ?_; (with_reducible refine (cmp_isNaN_int.calls a0 false _ A3.out).mono ?_); rintro e w' ⟨rfl, ⟨nd, rfl⟩⟩; refine ⟨_, rfl, ?_⟩) | ((with_reducible refine gate_callee (f := 101) rfl ?_); refine goesL_ (some 10) rfl rfl Try.func101 k_ rfl #[.int .i64 a1] rfl (g2_) ?_; (with_reducible refine (cmp_isNaN_int.calls a1 true _ A4.out).mono ?_); rintro e w' ⟨rfl, ⟨nd, rfl⟩⟩; refine ⟨_, rfl, ?_⟩))
   go_ret
   exact ⟨g3_, g5_⟩
  ·replace c7 := Bool.eq_false_iff.mpr c7
   subst c7
   replace H := ifn_ H
   by_cases c8 : a0 < a1
   ·rw [if_pos c8] at H
    have c8b0 := decide_eq_true c8
    clear c8
    obtain rfl := Option.some.inj H
    go_enter Try.func98, Try.ntmps98
    go_wp2_with (first | ((with_reducible refine gate_callee (f := 101) rfl ?_); refine goesL_ (some 8) rfl rfl Try.func101 k_ rfl #[.int .i64 a0] rfl (g2_) ?_; (with_reducible refine (cmp_isNaN_int.calls a0 false _ A3.out).mono ?_); rintro e w' ⟨rfl, ⟨nd, rfl⟩⟩; refine ⟨_, rfl, ?_⟩) | ((with_reducible refine gate_callee (f := 101) rfl ?_); refine goesL_ (some 10) rfl rfl Try.func101 k_ rfl #[.int .i64 a1] rfl (g2_) ?_; (with_reducible refine (cmp_isNaN_int.calls a1 false _ A4.out).mono ?_); rintro e w' ⟨rfl, ⟨nd, rfl⟩⟩; refine ⟨_, rfl, ?_⟩))
    go_ret
    exact ⟨g3_, g5_⟩
   ·rw [if_neg c8] at H
    have c8b0 := decide_eq_false c8
    clear c8
    by_cases c9 : a0 > a1
    ·rw [if_pos c9] at H
     have c9b0 := decide_eq_true c9
     clear c9
     obtain rfl := Option.some.inj H
     go_enter Try.func98, Try.ntmps98
     go_wp2_with (first | ((with_reducible refine gate_callee (f := 101) rfl ?_); refine goesL_ (some 8) rfl rfl Try.func101 k_ rfl #[.int .i64 a0] rfl (g2_) ?_; (with_reducible refine (cmp_isNaN_int.calls a0 false _ A3.out).mono ?_); rintro e w' ⟨rfl, ⟨nd, rfl⟩⟩; refine ⟨_, rfl, ?_⟩) | ((with_reducible refine gate_callee (f := 101) rfl ?_); refine goesL_ (some 10) rfl rfl Try.func101 k_ rfl #[.int .i64 a1] rfl (g2_) ?_; (with_reducible refine (cmp_isNaN_int.calls a1 false _ A4.out).mono ?_); rintro e w' ⟨rfl, ⟨nd, rfl⟩⟩; refine ⟨_, rfl, ?_⟩))
     go_ret
     exact ⟨g3_, g5_⟩
    ·rw [if_neg c9] at H
     have c9b0 := decide_eq_false c9
     clear c9
     obtain rfl := Option.some.inj H
     go_enter Try.func98, Try.ntmps98
     go_wp2_with (first | ((with_reducible refine gate_callee (f := 101) rfl ?_); refine goesL_ (some 8) rfl rfl Try.func101 k_ rfl #[.int .i64 a0] rfl (g2_) ?_; (with_reducible refine (cmp_isNaN_int.calls a0 false _ A3.out).mono ?_); rintro e w' ⟨rfl, ⟨nd, rfl⟩⟩; refine ⟨_, rfl, ?_⟩) | ((with_reducible refine gate_callee (f := 101) rfl ?_); refine goesL_ (some 10) rfl rfl Try.func101 k_ rfl #[.int .i64 a1] rfl (g2_) ?_; (with_reducible refine (cmp_isNaN_int.calls a1 false _ A4.out).mono ?_); rintro e w' ⟨rfl, ⟨nd, rfl⟩⟩; refine ⟨_, rfl, ?_⟩))
     go_ret
     exact ⟨g3_, g5_⟩
end Go.Proofs.Ytigpmfoagkhaeaa.PU

namespace Go.Proofs.Ytigpmfoagkhaeaa.PU
open Go.RowKit Go.Proofs.YtigpmfoagkhaeaaW.PrintWords Go.Proofs.YtigpmfoagkhaeaaW.PrintLast Go.Proofs.YtigpmfoagkhaeaaW.PrintMore Go.Proofs.Ytigpmfoagkhaeaa.Qd
attribute [local go_sem] max2_int min2_int max_two min_two max_three min_three max_four min_four   -- for this text's walks alone
set_option linter.unusedVariables false
set_option linter.unusedSimpArgs false
def impl_compare.f (a0_0 : Int) (a0_1 : Int) (a1_0 : Int) (a1_1 : Int) : Option (Int) := (cmp_Compare_int.f (wrap64 (a0_0 * a1_1)) (wrap64 (a1_0 * a0_1))).bind fun t225 => (some t225)
theorem impl_compare.calls_q0 {p : Prop} (h : p := by repeat (first | (with_reducible first | exact HB.out | apply below_alloc | apply pw_below_drewN | apply below_drew1 | refine below_set ?_ GE223.out | refine below_set ?_ GE224.out) | exact HB.out)) : p := h
set_option maxHeartbeats 8000000 in
set_option maxRecDepth 100000 in
theorem impl_compare.calls (a0_0 : Int) (a0_1 : Int) (a1_0 : Int) (a1_1 : Int) (r : Int) (w : World) (h : impl_compare.f a0_0 a0_1 a1_0 a1_1 = some r) :
  Calls Try.prog 78 #[.agg #[.int .i64 a0_0, .int .i64 a0_1], .agg #[.int .i64 a1_0, .int .i64 a1_1]] w fun e w' => e = .returned (.int .i64 r) ∧ Below w.heap.size w w' := by
 have hu36 := Try.underlying36
 have HB := Aside0.mk (Below.refl w.heap.size w)
 have H : ((cmp_Compare_int.f (wrap64 (a0_0 * a1_1)) (wrap64 (a1_0 * a0_1))).bind fun t225 => (some t225)) = some r := h
 clear h
 obtain ⟨t225, A3, H⟩ := bind_ H
 obtain rfl := Option.some.inj H
 go_enter Try.func78, Try.ntmps78
 go_wp2_with (first | ((with_reducible refine gate_dst (N := 2) rfl ?_); refine bx_ (N := 2) #[.int .i64 a0_0, .int .i64 a0_1] 36 ?_; intro gb223 hg w4 hbox hb; have BK223 := Aside0.mk (hbox); have GW223 := Aside0.mk ((g87_ : w.heap.size ≤ gb223)); have GE223 := Aside0.mk ((g87_ : w.heap.size ≤ gb223)); replace HB := Aside0.mk (below_step (impl_compare.calls_q0) hb); clear hb hbox hg) | ((with_reducible refine gate_dst (N := 3) rfl ?_); refine bx_ (N := 3) #[.int .i64 a1_0, .int .i64 a1_1] 36 ?_; intro gb224 hg w5 hbox hb; have BK224 := Aside0.mk (hbox); have GW224 := Aside0.mk ((g87_ : w.heap.size ≤ gb224)); have GE224 := Aside0.mk ((g87_ : w.heap.size ≤ gb224)); replace HB := Aside0.mk (below_step (impl_compare.calls_q0) hb); have NB223_224 := Aside0.mk ((by rw [hg]; exact Nat.ne_of_lt (blk_lt (g := gb223) (o := .cells #[.int .i64 a0_0, .int .i64 a0_1] 36 (0, 0)) (uf0_ BK223)) : gb223 ≠ gb224)); have NB224_223 := Aside0.mk ((by rw [hg]; exact Nat.ne_of_gt (blk_lt (g := gb223) (o := .cells #[.int .i64 a0_0, .int .i64 a0_1] 36 (0, 0)) (uf0_ BK223)) : gb224 ≠ gb223)); replace BK223 := Aside0.mk (blk_below (g := gb223) (o := .cells #[.int .i64 a0_0, .int .i64 a0_1] 36 (0, 0)) (uf0_ BK223) hb); clear hb hbox hg; have hnb6 := NB223_224.out; have hnc6 := NB224_223.out; obtain ⟨hcz7_0, hcz7_1, hfz7_0, hfz7_1⟩ := blk2_ BK223; obtain ⟨hcz8_0, hcz8_1, hfz8_0, hfz8_1⟩ := blk2_ BK224) | ((with_reducible refine gate_callee (f := 98) rfl ?_); refine goesL_ (some 15) rfl rfl Try.func98 k_ rfl #[.int .i64 (wrap64 (a0_0 * a1_1)), .int .i64 (wrap64 (a1_0 * a0_1))] rfl (g2_) ?_; (with_reducible refine (cmp_Compare_int.calls (wrap64 (a0_0 * a1_1)) (wrap64 (a1_0 * a0_1)) t225 _ A3.out).mono ?_); rintro e w' ⟨rfl, ⟨nd, rfl⟩⟩; refine ⟨_, rfl, ?_⟩))
 go_ret
 exact ⟨g4_, impl_compare.calls_q0⟩
end Go.Proofs.Ytigpmfoagkhaeaa.PU

namespace Go.Proofs.Ytigpmfoagkhaeaa.PU
open Go.RowKit Go.Proofs.YtigpmfoagkhaeaaW.PrintWords Go.Proofs.YtigpmfoagkhaeaaW.PrintLast Go.Proofs.YtigpmfoagkhaeaaW.PrintMore Go.Proofs.Ytigpmfoagkhaeaa.Qd
attribute [local go_sem] max2_int min2_int max_two min_two max_three min_three max_four min_four   -- for this text's walks alone
set_option linter.unusedVariables false
set_option linter.unusedSimpArgs false
mutual
def impl_owes.l0 : Nat → List Int → List (List Int) → Int → Int → Option (List Int)
 | 0, _, _, _, _ => none
 | k + 1, x3, x13, x14, x15 => if x15 < x14 then (if 0 ≤ x15 then (if x15 < (x13.length : Int) then (impl_owes.l1 k x3 x15 x13 x14 x15 (rd_L2 x13 x15) ((rd_L2 x13 x15).length : Int) 0) else (none)) else (none)) else (some x3)
def impl_owes.l1 : Nat → List Int → Int → List (List Int) → Int → Int → List Int → Int → Int → Option (List Int)
 | 0, _, _, _, _, _, _, _, _ => none
 | k + 1, x3, x4, x13, x14, x15, x20, x21, x22 => if x22 < x21 then (if 0 ≤ x22 then (if x22 < (x20.length : Int) then (if 0 ≤ x4 then (if x4 < (x3.length : Int) then (impl_owes.l1 k (x3.set (x4 : Int).toNat (wrap64 ((rd x3 x4) + (rd x20 x22)))) x4 x13 x14 x15 x20 x21 (wrap64 (x22 + 1))) else (none)) else (none)) else (none)) else (none)) else (impl_owes.l0 k x3 x13 x14 (wrap64 (x15 + 1)))
end
def impl_owes.f (k : Nat) (l0_0 : List Int) (l0_1 : List (List Int)) : Option (List Int) := if 0 ≤ (l0_0.length : Int) then (if ((l0_0.length : Int) : Int).toNat ≤ 35184372088832 then (impl_owes.l0 k (List.replicate ((l0_0.length : Int) : Int).toNat 0) l0_1 (l0_1.length : Int) 0) else (none)) else (none)
theorem impl_owes.mono_l : ∀ k, (∀ y0 y1 y2 y3, LeO (impl_owes.l0 k y0 y1 y2 y3) (impl_owes.l0 (k + 1) y0 y1 y2 y3)) ∧ (∀ y0 y1 y2 y3 y4 y5 y6 y7, LeO (impl_owes.l1 k y0 y1 y2 y3 y4 y5 y6 y7) (impl_owes.l1 (k + 1) y0 y1 y2 y3 y4 y5 y6 y7))
 | 0 => ⟨fun _ _ _ _ r h => by simp [impl_owes.l0] at h, fun _ _ _ _ _ _ _ _ r h => by simp [impl_owes.l1] at h⟩
 | k + 1 => by
  obtain ⟨ih0, ih1⟩ := impl_owes.mono_l k
  refine ⟨?_, ?_⟩
  ·intro y0 y1 y2 y3
   unfold impl_owes.l0
   repeat' first
   | (with_reducible exact ih0 _ _ _ _)
   | (with_reducible exact ih1 _ _ _ _ _ _ _ _)
   | (with_reducible exact LeO.refl _)
   | (with_reducible exact LeO.none _)
   | (with_reducible refine LeO.ite ?_ ?_)
   | (with_reducible refine LeO.bind ?_ (fun _ => ?_))
   | exact ih0 _ _ _ _
   | exact ih1 _ _ _ _ _ _ _ _
   | exact LeO.none _
   | refine LeO.ite ?_ ?_
   | refine LeO.bind ?_ (fun _ => ?_)
  ·intro y0 y1 y2 y3 y4 y5 y6 y7
   unfold impl_owes.l1
   repeat' first
   | (with_reducible exact ih0 _ _ _ _)
   | (with_reducible exact ih1 _ _ _ _ _ _ _ _)
   | (with_reducible exact LeO.refl _)
   | (with_reducible exact LeO.none _)
   | (with_reducible refine LeO.ite ?_ ?_)
   | (with_reducible refine LeO.bind ?_ (fun _ => ?_))
   | exact ih0 _ _ _ _
   | exact ih1 _ _ _ _ _ _ _ _
   | exact LeO.none _
   | refine LeO.ite ?_ ?_
   | refine LeO.bind ?_ (fun _ => ?_)
theorem impl_owes.mono : ∀ a0 a1 k, LeO (impl_owes.f k a0 a1) (impl_owes.f (k + 1) a0 a1) := by
 intro a0 a1 k
 obtain ⟨ih0, ih1⟩ := impl_owes.mono_l k
 unfold impl_owes.f
 repeat' first
   | (with_reducible exact ih0 _ _ _ _)
   | (with_reducible exact ih1 _ _ _ _ _ _ _ _)
   | (with_reducible exact LeO.refl _)
   | (with_reducible exact LeO.none _)
   | (with_reducible refine LeO.ite ?_ ?_)
   | (with_reducible refine LeO.bind ?_ (fun _ => ?_))
   | exact ih0 _ _ _ _
   | exact ih1 _ _ _ _ _ _ _ _
   | exact LeO.none _
   | refine LeO.ite ?_ ?_
   | refine LeO.bind ?_ (fun _ => ?_)
theorem impl_owes.calls_q0 {p : Prop} (h : p := by repeat (first | (with_reducible first | exact HB.out | apply below_alloc | apply pw_below_drewN | apply below_drew1 | refine below_set ?_ GE226.out) | exact HB.out)) : p := h
set_option maxHeartbeats 8000000 in
set_option maxRecDepth 100000 in
theorem impl_owes.calls (k : Nat) (A0_0 : Option Addr) (c0_0 : Nat) (l0_0 : List Int) (A0_1 : Option Addr) (c0_1 : Nat) (l0_1 : List (List Int)) (r : List Int) (w : World) (hr0_0 : Kd.C (Kd.int .i64) w A0_0 l0_0.length l0_0) (hc0_0 : l0_0.length ≤ c0_0) (hr0_1 : Kd.C (Kd.slice 3 (Kd.int .i64)) w A0_1 l0_1.length l0_1) (hc0_1 : l0_1.length ≤ c0_1) (h : impl_owes.f k l0_0 l0_1 = some r) :
  Calls Try.prog 91 #[.agg #[.slice A0_0 l0_0.length c0_0, .slice A0_1 l0_1.length c0_1]] w fun e w' => ∃ v0_ : Value, e = .returned (v0_) ∧ Kd.R (Kd.int .i64) 3 w' w.heap.size (fun _ => True) v0_ r ∧ Below w.heap.size w w' := by
 have hu26 := Try.underlying26
 have HR0_0 := Aside0.mk hr0_0
 have HC0_0 := Aside0.mk hc0_0
 clear hr0_0 hc0_0
 have HR0_1 := Aside0.mk hr0_1
 have HC0_1 := Aside0.mk hc0_1
 clear hr0_1 hc0_1
 have HB := Aside0.mk (Below.refl w.heap.size w)
 have H : (if 0 ≤ (l0_0.length : Int) then (if ((l0_0.length : Int) : Int).toNat ≤ 35184372088832 then (impl_owes.l0 k (List.replicate ((l0_0.length : Int) : Int).toNat 0) l0_1 (l0_1.length : Int) 0) else (none)) else (none)) = some r := h
 clear h
 by_cases c2 : 0 ≤ (l0_0.length : Int)
 ·rw [if_pos c2] at H
  have c2b0 := eq_true c2
  have c2b1 := decide_eq_true c2
  clear c2
  by_cases c3 : ((l0_0.length : Int) : Int).toNat ≤ 35184372088832
  ·rw [if_pos c3] at H
   have c3b0 := eq_true c3
   have c3b1 := decide_eq_true c3
   clear c3
   obtain ⟨y227, hy227⟩ : ∃ y_ : List Int, y_ = (List.replicate ((l0_0.length : Int) : Int).toNat 0) := ⟨_, rfl⟩
   replace H : (impl_owes.l0 k y227 l0_1 (l0_1.length : Int) 0) = some r := by first | (rw [hy227]; with_reducible exact H) | (have H2_ := (Option.bind_some _ _).symm.trans H; rw [hy227]; with_reducible exact H2_) | (have H2_ := (Option.bind_some _ _).symm.trans H; with_reducible exact H2_) | with_reducible exact H | (rw [hy227]; exact H) | exact H
   have Ny227 := Aside0.mk hy227
   clear hy227
   have H' := Aside0.mk H
   clear H
   go_enter Try.func91, Try.ntmps91
   go_wp2_with (first | ((with_reducible refine gate_dst (N := 1) rfl ?_); refine bx_ (N := 1) #[.slice A0_0 l0_0.length c0_0, .slice A0_1 l0_1.length c0_1] 26 ?_; intro gb226 hg w4 hbox hb; have BK226 := Aside0.mk (hbox); have GW226 := Aside0.mk ((by rw [hg]; exact (below_size (impl_owes.calls_q0)) : w.heap.size ≤ gb226)); have GE226 := Aside0.mk ((by rw [hg]; exact (below_size (impl_owes.calls_q0)) : w.heap.size ≤ gb226)); replace HB := Aside0.mk (below_step (impl_owes.calls_q0) hb); clear hb hbox hg; obtain ⟨hcz5_0, hcz5_1, hfz5_0, hfz5_1⟩ := blk2_ BK226) | ((with_reducible refine gate_dst (N := 11) rfl ?_); refine Kd.R_make (Kd.int .i64) _ 3 rfl (N := 11) rfl 23 _ _ rfl (l0_0.length : Int) rfl rfl Try.underlying23 (.int .i64 0) 8 info3 rfl (by decide) (by omega) 0 (ok := fun _ => True) (okp := fun _ => True) rfl (fun _ hk => hk) trivial (of_decide_eq_true (g1_)) (Nat.le_trans (Nat.mul_le_mul_right _ (of_decide_eq_true (g1_) : (l0_0.length : Int).toNat ≤ 35184372088832)) (by omega)) (Below.refl _ _) (Nat.le_refl _) ?_; intro v228 w6 ho7 hb hg_ hnew_; clear hg_ hnew_; (first | rw [← Ny227.out] at ho7 | (simp only [Int.reduceToNat] at ho7; rw [← Ny227.out] at ho7)); have HO229 := Aside0.mk (Kd.R_lower ho7 (below_size (impl_owes.calls_q0))); replace BK226 := Aside0.mk (blk_below (g := gb226) (o := .cells #[.slice A0_0 l0_0.length c0_0, .slice A0_1 l0_1.length c0_1] 26 (0, 0)) (uf0_ BK226) hb); replace HB := Aside0.mk (below_step (impl_owes.calls_q0) hb); clear hb ho7; obtain ⟨hcz8_0, hcz8_1, hfz8_0, hfz8_1⟩ := blk2_ BK226))
   go_loopg [15] k (fun kq v15 w' => ∃ (x3_1 : List Int) (x15_1 : Int), v15 = .int .i64 x15_1 ∧ Aside0 (impl_owes.l0 kq x3_1 l0_1 (l0_1.length : Int) x15_1 = some r) ∧ Aside0 (kq ≤ k) ∧ Aside0 (Kd.R (Kd.int .i64) 3 w' w.heap.size (fun _ => True) v228 x3_1) ∧ Aside0 (w'.heap[gb226]? = some (.cells #[(.slice A0_0 l0_0.length c0_0), (.slice A0_1 l0_1.length c0_1)] 26 (0, 0))) ∧ Aside0 (Below w.heap.size w w'))
   case atStart => exact ⟨(y227), (0), (g3_), H', ⟨Nat.le_refl _⟩, ⟨uf1_ HO229⟩, ⟨uf0_ BK226⟩, ⟨impl_owes.calls_q0⟩⟩
   case round =>
    clear H'
    try clear c2
    try clear c2b0
    try clear c2b1
    try clear p2
    try clear c3
    try clear c3b0
    try clear c3b1
    try clear hcz5_0
    try clear hcz5_1
    try clear hcz8_0
    try clear hcz8_1
    try clear hfz5_0
    try clear hfz5_1
    try clear hfz8_0
    try clear hfz8_1
    obtain ⟨x3_1, x15_1, rfl, HA, HK1, HO_3, BK226, HB⟩ := hrel
    cases gk with
    | zero => exact absurd HA.out (by simp [impl_owes.l0])
    | succ k1 =>
     have H := HA.out
     clear HA
     simp only [impl_owes.l0] at H
     by_cases c9 : x15_1 < (l0_1.length : Int)
     ·rw [if_pos c9] at H
      have c9b0 := decide_eq_true c9
      clear c9
      by_cases c10 : 0 ≤ x15_1
      ·rw [if_pos c10] at H
       have c10b0 := decide_eq_true c10
       clear c10
       by_cases c11 : x15_1 < (l0_1.length : Int)
       ·rw [if_pos c11] at H
        have c11b0 := decide_eq_true c11
        clear c11
        have H' := Aside0.mk H
        clear H
        have p230 : 0 ≤ (x15_1 : Int) := of_decide_eq_true (g1_)
        have q230 : x15_1 < (l0_1.length : Int) := of_decide_eq_true (g1_)
        obtain ⟨ad230, A230_0, c230_0, e230, hx230_0, hl230_0, hi230_0⟩ := at_L2 HR0_1.out x15_1 p230 q230
        cases e230
        replace hx230_0 := cl_ HB hx230_0
        have HR230_0 := Aside0.mk hi230_0
        have HC230_0 := Aside0.mk hl230_0
        clear hi230_0 hl230_0
        replace p230 := eq_true p230
        replace q230 := eq_true q230
        go_wp2
        go_loopg [22] k1 (fun kq v22 w' => ∃ (x3_2 : List Int) (x22_2 : Int), v22 = .int .i64 x22_2 ∧ Aside0 (impl_owes.l1 kq x3_2 x15_1 l0_1 (l0_1.length : Int) x15_1 (rd_L2 l0_1 x15_1) ((rd_L2 l0_1 x15_1).length : Int) x22_2 = some r) ∧ Aside0 (kq ≤ k1) ∧ Aside0 (Kd.R (Kd.int .i64) 3 w' w.heap.size (fun _ => True) v228 x3_2) ∧ Aside0 (w'.heap[gb226]? = some (.cells #[(.slice A0_0 l0_0.length c0_0), (.slice (some ad230) l0_1.length c0_1)] 26 (0, 0))) ∧ Aside0 (Below w.heap.size w w'))
        case atStart => exact ⟨(x3_1), (0), (g3_), H', ⟨Nat.le_refl _⟩, ⟨uf1_ HO_3⟩, ⟨uf0_ BK226⟩, ⟨impl_owes.calls_q0⟩⟩
        case round =>
         clear H'
         try clear c1
         try clear c2
         try clear c2b0
         try clear c2b1
         try clear p2
         try clear q2
         try clear hx2
         try clear c3
         try clear c3b0
         try clear c3b1
         try clear c9
         try clear c9b0
         try clear c10
         try clear c10b0
         try clear c11
         try clear c11b0
         try clear hcz5_0
         try clear hcz5_1
         try clear hcz8_0
         try clear hcz8_1
         try clear hfz5_0
         try clear hfz5_1
         try clear hfz8_0
         try clear hfz8_1
         try clear hx230_0
         try clear p2
         try clear p230
         try clear q230
         obtain ⟨x3_2, x22_2, rfl, HA, HK2, HO_3, BK226, HB⟩ := hrel
         cases gk with
         | zero => exact absurd HA.out (by simp [impl_owes.l1])
         | succ k2 =>
          have H := HA.out
          clear HA
          simp only [impl_owes.l1] at H
          by_cases c12 : x22_2 < ((rd_L2 l0_1 x15_1).length : Int)
          ·rw [if_pos c12] at H
           have c12b0 := decide_eq_true c12
           clear c12
           by_cases c13 : 0 ≤ x22_2
           ·rw [if_pos c13] at H
            have c13b0 := decide_eq_true c13
            clear c13
            by_cases c14 : x22_2 < ((rd_L2 l0_1 x15_1).length : Int)
            ·rw [if_pos c14] at H
             have c14b0 := decide_eq_true c14
             clear c14
             by_cases c15 : 0 ≤ x15_1
             ·rw [if_pos c15] at H
              have c15b0 := decide_eq_true c15
              clear c15
              by_cases c16 : x15_1 < (x3_2.length : Int)
              ·rw [if_pos c16] at H
               have c16b0 := decide_eq_true c16
               clear c16
               obtain ⟨y233, hy233⟩ : ∃ y_ : List Int, y_ = (x3_2.set (x15_1 : Int).toNat (wrap64 ((rd x3_2 x15_1) + (rd (rd_L2 l0_1 x15_1) x22_2)))) := ⟨_, rfl⟩
               replace H : (impl_owes.l1 k2 y233 x15_1 l0_1 (l0_1.length : Int) x15_1 (rd_L2 l0_1 x15_1) ((rd_L2 l0_1 x15_1).length : Int) (wrap64 (x22_2 + 1))) = some r := by first | (rw [hy233]; with_reducible exact H) | (have H2_ := (Option.bind_some _ _).symm.trans H; rw [hy233]; with_reducible exact H2_) | (have H2_ := (Option.bind_some _ _).symm.trans H; with_reducible exact H2_) | with_reducible exact H | (rw [hy233]; exact H) | exact H
               have Ny233 := Aside0.mk hy233
               clear hy233
               have H' := Aside0.mk H
               clear H
               have p231 : 0 ≤ (x22_2 : Int) := of_decide_eq_true (g1_)
               have q231 : x22_2 < ((rd_L2 l0_1 x15_1).length : Int) := of_decide_eq_true (g1_)
               obtain ⟨ad231, e231, hx231_0⟩ := Kd.at_int HR230_0.out x22_2 p231 q231
               cases e231
               replace hx231_0 := cl_ HB hx231_0
               replace p231 := eq_true p231
               replace q231 := eq_true q231
               obtain ⟨Ao18, co18, eo18⟩ := Kd.R_slice HO_3.out
               subst eo18
               have p232 : 0 ≤ (x15_1 : Int) := of_decide_eq_true (g1_)
               have q232 : x15_1 < (x3_2.length : Int) := of_decide_eq_true (g1_)
               obtain ⟨ad232, e232, hx232_0⟩ := Kd.at_int (Kd.R_reads' HO_3.out).2.2 x15_1 p232 q232
               cases e232
               replace p232 := eq_true p232
               replace q232 := eq_true q232
               have p17 : 0 ≤ (x15_1 : Int) := of_decide_eq_true (g1_)
               have q17 : (x15_1 : Int) < ((x3_2.length : Int) : Int) := of_decide_eq_true (g1_)
               obtain ⟨go17, co17, eo17, gb17, gl17, cl17, HG17⟩ := Kd.R_form HO_3.out (by omega)
               (first | cases eo17 | (injection eo17 with ea_ en_ ec_; (first | subst ea_ | (injection ea_ with ea_; subst ea_)); subst ec_; clear en_))
               have GB17 := Aside0.mk gb17
               have GG17 := Aside0.mk HG17
               clear gb17 gl17 HG17
               (first | simp only [add_plain] at hx232_0 | skip)
               obtain ⟨hx17_0, hf17_0⟩ := Kd.R_celln 0 HO_3.out (x15_1 : Int) p17 q17
               replace p17 := eq_true p17
               replace q17 := eq_true q17
               have HP19 := Kd.R_putg HO_3.out (x15_1 : Int) (wrap64 ((rd x3_2 x15_1) + (rd (rd_L2 l0_1 x15_1) x22_2)))
               go_wp2_with (first | ((with_reducible refine gate_store (t := 3) (p := 32) rfl ?_); refine store_event (t := 3) (p := 32) (v := ?vo_w20) (w1 := (wr.setCell ⟨go17, (x15_1 : Int).toNat, none⟩ (.int .i64 (wrap64 ((rd x3_2 x15_1) + (rd (rd_L2 l0_1 x15_1) x22_2)))))) ?hg ?ho ?hn ?hr ?_; (case ho => rfl); (case hg => rfl); (case hn => rfl); (case hr => first | (go_simp; done) | (go_simp; rfl)); intro w20 hw; have hg : wr.grownBy w20 (some go17) := (by rw [hw]; exact HP19.2); have hp_ : Kd.R (Kd.int .i64) 3 w20 w.heap.size (fun _ => True) (.slice (some ⟨go17, 0, none⟩) x3_2.length co18) y233 := (by rw [hw, Ny233.out]; exact HP19.1); clear HP19; replace BK226 := Aside0.mk (blk_grown (g := gb226) (o := .cells #[.slice A0_0 l0_0.length c0_0, .slice (some ad230) l0_1.length c0_1] 26 (0, 0)) (uf0_ BK226) hg (Kd.R_ne HO_3.out BK226.out (by decide))); replace HO_3 := Aside0.mk (hp_); replace HB := Aside0.mk ((by rw [hw]; exact below_set (HB.out) GB17.out : Below w.heap.size w w20)); clear hg hw hp_))
               go_roundg k2
               case measure => have := HK1.out; have := HK2.out; omega
               case rel => exact ⟨(y233), (wrap64 (x22_2 + 1)), (g3_), H', ⟨g34_⟩, ⟨uf1_ HO_3⟩, ⟨uf0_ BK226⟩, ⟨impl_owes.calls_q0⟩⟩
              ·rw [if_neg c16] at H
               exact absurd H (by simp)
             ·rw [if_neg c15] at H
              exact absurd H (by simp)
            ·rw [if_neg c14] at H
             exact absurd H (by simp)
           ·rw [if_neg c13] at H
            exact absurd H (by simp)
          ·rw [if_neg c12] at H
           have c12b0 := decide_eq_false c12
           clear c12
           have H' := Aside0.mk H
           clear H
           go_wp2
           go_roundg k2
           case measure => have := HK1.out; have := HK2.out; omega
           case rel => exact ⟨(x3_2), (wrap64 (x15_1 + 1)), (g3_), H', ⟨g34_⟩, ⟨uf1_ HO_3⟩, ⟨uf0_ BK226⟩, ⟨impl_owes.calls_q0⟩⟩
       ·rw [if_neg c11] at H
        exact absurd H (by simp)
      ·rw [if_neg c10] at H
       exact absurd H (by simp)
     ·rw [if_neg c9] at H
      have c9b0 := decide_eq_false c9
      clear c9
      obtain rfl := Option.some.inj H
      go_wp2
      go_ret
      exact ⟨_, g4_, uf1_ HO_3, impl_owes.calls_q0⟩
  ·rw [if_neg c3] at H
   exact absurd H (by simp)
 ·rw [if_neg c2] at H
  exact absurd H (by simp)
end Go.Proofs.Ytigpmfoagkhaeaa.PU

namespace Go.Proofs.Ytigpmfoagkhaeaa.PU
open Go.RowKit Go.Proofs.YtigpmfoagkhaeaaW.PrintWords Go.Proofs.YtigpmfoagkhaeaaW.PrintLast Go.Proofs.YtigpmfoagkhaeaaW.PrintMore Go.Proofs.Ytigpmfoagkhaeaa.Qd
attribute [local go_sem] max2_int min2_int max_two min_two max_three min_three max_four min_four   -- for this text's walks alone
set_option linter.unusedVariables false
set_option linter.unusedSimpArgs false
mutual
def impl_arePays.j0 : Nat → List (S36) → Bool → List Int → List (List Int) → Option (Bool)
 | 0, _, _, _, _ => none
 | k + 1, x1, x17, x235000, x235001 => if x17 = true then (some false) else ((impl_owes.f k x235000 x235001).bind fun t236 => (impl_arePays.l0 k x1 t236 (t236.length : Int) 0))
def impl_arePays.l0 : Nat → List (S36) → List Int → Int → Int → Option (Bool)
 | 0, _, _, _, _ => none
 | k + 1, x1, x19, x20, x21 => if x21 < x20 then (if 0 ≤ x21 then (if x21 < (x19.length : Int) then (if x21 < (x1.length : Int) then ((impl_isFrac.f k ((rd_T36 x1 x21).f0) ((rd_T36 x1 x21).f1)).bind fun t241 => (if t241 = true then (if ((rd_T36 x1 x21).f0) < 0 then (some false) else ((impl_whole.f (rd x19 x21)).bind fun bt244 => ((impl_compare.f ((rd_T36 x1 x21).f0) ((rd_T36 x1 x21).f1) bt244.1 bt244.2).bind fun t246 => (if t246 > 0 then (some false) else (impl_arePays.l0 k x1 x19 x20 (wrap64 (x21 + 1))))))) else (some false))) else (none)) else (none)) else (none)) else (some true)
end
def impl_arePays.f (k : Nat) (l0_0 : List Int) (l0_1 : List (List Int)) (l1 : List (S36)) : Option (Bool) := (impl_isBook.f k l0_0 l0_1).bind fun t235 => (if t235 = true then (impl_arePays.j0 k l1 ((l1.length : Int) != (l0_0.length : Int)) l0_0 l0_1) else (impl_arePays.j0 k l1 true l0_0 l0_1))
theorem impl_arePays.mono_l : ∀ k, (∀ y0 y1 y2 y3, LeO (impl_arePays.j0 k y0 y1 y2 y3) (impl_arePays.j0 (k + 1) y0 y1 y2 y3)) ∧ (∀ y0 y1 y2 y3, LeO (impl_arePays.l0 k y0 y1 y2 y3) (impl_arePays.l0 (k + 1) y0 y1 y2 y3))
 | 0 => ⟨fun _ _ _ _ r h => by simp [impl_arePays.j0] at h, fun _ _ _ _ r h => by simp [impl_arePays.l0] at h⟩
 | k + 1 => by
  obtain ⟨ih0, ih1⟩ := impl_arePays.mono_l k
  refine ⟨?_, ?_⟩
  ·intro y0 y1 y2 y3
   unfold impl_arePays.j0
   repeat' first
   | (with_reducible exact ih0 _ _ _ _)
   | (with_reducible exact ih1 _ _ _ _)
   | (with_reducible exact impl_isBook.mono _ _ _)
   | (with_reducible exact impl_isFrac.mono _ _ _)
   | (with_reducible exact impl_owes.mono _ _ _)
   | (with_reducible exact LeO.refl _)
   | (with_reducible exact LeO.none _)
   | (with_reducible refine LeO.ite ?_ ?_)
   | (with_reducible refine LeO.bind ?_ (fun _ => ?_))
   | exact ih0 _ _ _ _
   | exact ih1 _ _ _ _
   | exact impl_isBook.mono _ _ _
   | exact impl_isFrac.mono _ _ _
   | exact impl_owes.mono _ _ _
   | exact LeO.none _
   | refine LeO.ite ?_ ?_
   | refine LeO.bind ?_ (fun _ => ?_)
  ·intro y0 y1 y2 y3
   unfold impl_arePays.l0
   repeat' first
   | (with_reducible exact ih0 _ _ _ _)
   | (with_reducible exact ih1 _ _ _ _)
   | (with_reducible exact impl_isBook.mono _ _ _)
   | (with_reducible exact impl_isFrac.mono _ _ _)
   | (with_reducible exact impl_owes.mono _ _ _)
   | (with_reducible exact LeO.refl _)
   | (with_reducible exact LeO.none _)
   | (with_reducible refine LeO.ite ?_ ?_)
   | (with_reducible refine LeO.bind ?_ (fun _ => ?_))
   | exact ih0 _ _ _ _
   | exact ih1 _ _ _ _
   | exact impl_isBook.mono _ _ _
   | exact impl_isFrac.mono _ _ _
   | exact impl_owes.mono _ _ _
   | exact LeO.none _
   | refine LeO.ite ?_ ?_
   | refine LeO.bind ?_ (fun _ => ?_)
theorem impl_arePays.mono : ∀ a0 a1 a2 k, LeO (impl_arePays.f k a0 a1 a2) (impl_arePays.f (k + 1) a0 a1 a2) := by
 intro a0 a1 a2 k
 obtain ⟨ih0, ih1⟩ := impl_arePays.mono_l k
 unfold impl_arePays.f
 repeat' first
   | (with_reducible exact ih0 _ _ _ _)
   | (with_reducible exact ih1 _ _ _ _)
   | (with_reducible exact impl_isBook.mono _ _ _)
   | (with_reducible exact impl_isFrac.mono _ _ _)
   | (with_reducible exact impl_owes.mono _ _ _)
   | (with_reducible exact LeO.refl _)
   | (with_reducible exact LeO.none _)
   | (with_reducible refine LeO.ite ?_ ?_)
   | (with_reducible refine LeO.bind ?_ (fun _ => ?_))
   | exact ih0 _ _ _ _
   | exact ih1 _ _ _ _
   | exact impl_isBook.mono _ _ _
   | exact impl_isFrac.mono _ _ _
   | exact impl_owes.mono _ _ _
   | exact LeO.none _
   | refine LeO.ite ?_ ?_
   | refine LeO.bind ?_ (fun _ => ?_)
def impl_arePays.T6 : Bool × List (List Nat × List Nat) := (true, [([], []), ([], []), ([0, 1], [0, 1]), ([2], [2]), ([3], [3]), ([4], [4]), ([5, 4], [5]), ([6], [6]), ([6], [6]), ([7, 8, 6], [6, 7, 8]), ([9, 6], [6, 9]), ([10, 6], [6, 10]), ([11, 6], [6, 11]), ([6, 12], [6, 12]), ([13, 6], [13]), ([14], [14]), ([14], [14]), ([15, 16, 14], [14, 15, 16]), ([17, 14], [14, 17]), ([14], [14]), ([19, 14, 14], [14, 19]), ([18, 20, 20, 14], [14, 18, 20]), ([21, 14], [14, 21]), ([14, 22], [14, 22])])
def impl_arePays.B6 : List Nat := [0, 0, 3, 7, 15, 31, 63, 127, 127, 511, 1023, 2047, 4095, 8191, 16383, 32767, 32767, 131071, 262143, 32767, 557055, 2097151, 4194303, 8388607]
theorem impl_arePays.tab6 : rtab .any (opsOf Try.f58 6) = impl_arePays.T6 := by kernel_rfl
theorem impl_arePays.bits6 : waitsOk impl_arePays.T6.2 impl_arePays.B6 = true := by kernel_rfl
theorem impl_arePays.calls_q0 {p : Prop} (h : p := by repeat (first | (with_reducible first | exact HB.out | apply below_alloc | apply pw_below_drewN | apply below_drew1 | refine below_set ?_ GE234.out) | exact HB.out)) : p := h
set_option maxHeartbeats 8000000 in
set_option maxRecDepth 100000 in
theorem impl_arePays.calls (k : Nat) (A0_0 : Option Addr) (c0_0 : Nat) (l0_0 : List Int) (A0_1 : Option Addr) (c0_1 : Nat) (l0_1 : List (List Int)) (A1 : Option Addr) (c1 : Nat) (l1 : List (S36)) (r : Bool) (w : World) (hr0_0 : Kd.C (Kd.int .i64) w A0_0 l0_0.length l0_0) (hc0_0 : l0_0.length ≤ c0_0) (hr0_1 : Kd.C (Kd.slice 3 (Kd.int .i64)) w A0_1 l0_1.length l0_1) (hc0_1 : l0_1.length ≤ c0_1) (hr1 : Kd.C k36 w A1 l1.length l1) (hc1 : l1.length ≤ c1) (h : impl_arePays.f k l0_0 l0_1 l1 = some r) :
  Calls Try.prog 58 #[.agg #[.slice A0_0 l0_0.length c0_0, .slice A0_1 l0_1.length c0_1], .slice A1 l1.length c1] w fun e w' => e = .returned (.bool r) ∧ Below w.heap.size w w' := by
 have hu26 := Try.underlying26
 have hu36 := Try.underlying36
 have HR0_0 := Aside0.mk hr0_0
 have HC0_0 := Aside0.mk hc0_0
 clear hr0_0 hc0_0
 have HR0_1 := Aside0.mk hr0_1
 have HC0_1 := Aside0.mk hc0_1
 clear hr0_1 hc0_1
 have HR1 := Aside0.mk hr1
 have HC1 := Aside0.mk hc1
 clear hr1 hc1
 have HB := Aside0.mk (Below.refl w.heap.size w)
 have H : ((impl_isBook.f k l0_0 l0_1).bind fun t235 => (if t235 = true then (impl_arePays.j0 k l1 ((l1.length : Int) != (l0_0.length : Int)) l0_0 l0_1) else (impl_arePays.j0 k l1 true l0_0 l0_1))) = some r := h
 clear h
 have HC3 := Aside0.mk H
 clear H
 go_enter Try.func58, Try.ntmps58
 go_upto_region 1 with (first | ((with_reducible refine gate_dst (N := 2) rfl ?_); (try (refine gate_guard (by rfl) ?_; dsimp only)); refine bx_ (N := 2) #[.slice A0_0 l0_0.length c0_0, .slice A0_1 l0_1.length c0_1] 26 ?_; intro gb234 hg w4 hbox hb; have BK234 := Aside0.mk (hbox); have GW234 := Aside0.mk ((by rw [hg]; exact (below_size (impl_arePays.calls_q0)) : w.heap.size ≤ gb234)); have GE234 := Aside0.mk ((by rw [hg]; exact (below_size (impl_arePays.calls_q0)) : w.heap.size ≤ gb234)); replace HB := Aside0.mk (below_step (impl_arePays.calls_q0) hb); clear hb hbox hg))
 (try simp only [Act.put, List.setIfInBounds_toArray, List.set_cons_zero, List.set_cons_succ])
 go_cut [17] (fun v17 wc => ∃ (kq : Nat) (x17_2 : Bool), v17 = .bool x17_2 ∧ Aside0 (impl_arePays.j0 kq l1 x17_2 l0_0 l0_1 = some r) ∧ Aside0 (kq ≤ k) ∧ Aside0 (wc.heap[gb234]? = some (.cells #[(.slice A0_0 l0_0.length c0_0), (.slice A0_1 l0_1.length c0_1)] 26 (0, 0))) ∧ Aside0 (Below w.heap.size w wc))
 case first =>
  have H := HC3.out
  clear HC3
  obtain ⟨t235, A5, H⟩ := bind_ H
  by_cases c6 : t235 = true
  ·subst c6
   replace H := ifp_ H
   have H' := Aside0.mk H
   clear H
   obtain ⟨hcz7_0, hcz7_1, hfz7_0, hfz7_1⟩ := blk2_ BK234
   go_wp2_with (first | ((with_reducible refine gate_callee (f := 54) rfl ?_); refine goesL_ (some 8) rfl rfl Try.func54 k_ rfl #[.agg #[.slice A0_0 l0_0.length c0_0, .slice A0_1 l0_1.length c0_1]] rfl (g2_) ?_; (with_reducible refine (impl_isBook.calls k _ _ l0_0 _ _ l0_1 true _ ?side1 ?side2 ?side3 ?side4 A5.out).mono ?_); (case side1 => exact uf4_ HR0_0); (case side2 => exact HC0_0.out); (case side3 => exact uf4_ HR0_1); (case side4 => exact HC0_1.out); rintro e w8 ⟨rfl, hb⟩; refine ⟨_, rfl, ?_⟩; replace BK234 := Aside0.mk (blk_below (g := gb234) (o := .cells #[.slice A0_0 l0_0.length c0_0, .slice A0_1 l0_1.length c0_1] 26 (0, 0)) (uf0_ BK234) hb); replace HB := Aside0.mk (below_step (impl_arePays.calls_q0) hb); (try clear hb); (try clear hk hi); obtain ⟨hcz9_0, hcz9_1, hfz9_0, hfz9_1⟩ := blk2_ BK234))
   go_meet
   case rel => exact ⟨_, (((l1.length : Int) != (l0_0.length : Int))), (g3_), H', ⟨g13_⟩, ⟨uf0_ BK234⟩, ⟨impl_arePays.calls_q0⟩⟩
  ·replace c6 := Bool.eq_false_iff.mpr c6
   subst c6
   replace H := ifn_ H
   have H' := Aside0.mk H
   clear H
   obtain ⟨hcz10_0, hcz10_1, hfz10_0, hfz10_1⟩ := blk2_ BK234
   go_wp2_with (first | ((with_reducible refine gate_callee (f := 54) rfl ?_); refine goesL_ (some 8) rfl rfl Try.func54 k_ rfl #[.agg #[.slice A0_0 l0_0.length c0_0, .slice A0_1 l0_1.length c0_1]] rfl (g2_) ?_; (with_reducible refine (impl_isBook.calls k _ _ l0_0 _ _ l0_1 false _ ?side1 ?side2 ?side3 ?side4 A5.out).mono ?_); (case side1 => exact uf4_ HR0_0); (case side2 => exact HC0_0.out); (case side3 => exact uf4_ HR0_1); (case side4 => exact HC0_1.out); rintro e w11 ⟨rfl, hb⟩; refine ⟨_, rfl, ?_⟩; replace BK234 := Aside0.mk (blk_below (g := gb234) (o := .cells #[.slice A0_0 l0_0.length c0_0, .slice A0_1 l0_1.length c0_1] 26 (0, 0)) (uf0_ BK234) hb); replace HB := Aside0.mk (below_step (impl_arePays.calls_q0) hb); (try clear hb); (try clear hk hi)))
   go_meet
   case rel => exact ⟨_, (true), (g3_), H', ⟨g13_⟩, ⟨uf0_ BK234⟩, ⟨impl_arePays.calls_q0⟩⟩
 case rest =>
  clear HC3
  try clear c1
  try clear p2
  try clear c5
  try clear c6
  try clear hcz10_0
  try clear hcz10_1
  try clear hcz7_0
  try clear hcz7_1
  try clear hcz9_0
  try clear hcz9_1
  try clear hfz10_0
  try clear hfz10_1
  try clear hfz7_0
  try clear hfz7_1
  try clear hfz9_0
  try clear hfz9_1
  obtain ⟨kq, x17_2, rfl, HA, HJ2, BK234, HB⟩ := hcut
  cases kq with
  | zero => exact absurd HA.out (by simp [impl_arePays.j0])
  | succ kj2 =>
   have H := HA.out
   clear HA
   simp only [impl_arePays.j0] at H
   by_cases c12 : x17_2 = true
   ·subst c12
    replace H := ifp_ H
    obtain rfl := Option.some.inj H
    go_wp2
    go_ret
    exact ⟨g4_, impl_arePays.calls_q0⟩
   ·replace c12 := Bool.eq_false_iff.mpr c12
    subst c12
    replace H := ifn_ H
    obtain ⟨t236, A13, H⟩ := bind_ H
    have H' := Aside0.mk H
    clear H
    obtain ⟨hcz14_0, hcz14_1, hfz14_0, hfz14_1⟩ := blk2_ BK234
    go_wp2_with (first | ((with_reducible refine gate_callee (f := 91) rfl ?_); refine goesL_ (some 19) rfl rfl Try.func91 k_ rfl #[.agg #[.slice A0_0 l0_0.length c0_0, .slice A0_1 l0_1.length c0_1]] rfl (g2_) ?_; (with_reducible refine (impl_owes.calls kj2 _ _ l0_0 _ _ l0_1 t236 _ ?side1 ?side2 ?side3 ?side4 A13.out).mono ?_); (case side1 => exact uf4_ HR0_0); (case side2 => exact HC0_0.out); (case side3 => exact uf4_ HR0_1); (case side4 => exact HC0_1.out); rintro e w15 ⟨v237, rfl, ho0, hb⟩; refine ⟨_, rfl, ?_⟩; have HO238 := Aside0.mk (Kd.R_lower ho0 (below_size (impl_arePays.calls_q0))); replace BK234 := Aside0.mk (blk_below (g := gb234) (o := .cells #[.slice A0_0 l0_0.length c0_0, .slice A0_1 l0_1.length c0_1] 26 (0, 0)) (uf0_ BK234) hb); replace HB := Aside0.mk (below_step (impl_arePays.calls_q0) hb); (try clear hb); (try clear hk hi); (try clear ho0); obtain ⟨Ao16, co16, eo16⟩ := Kd.R_slice HO238.out; subst eo16))
    go_loopg [21] kj2 (fun kq v21 w' => ∃ (x21_2 : Int), v21 = .int .i64 x21_2 ∧ Aside0 (impl_arePays.l0 kq l1 t236 (t236.length : Int) x21_2 = some r) ∧ Aside0 (kq ≤ kj2) ∧ Aside0 (Kd.R (Kd.int .i64) 3 w' w.heap.size (fun _ => True) (.slice Ao16 t236.length co16) t236) ∧ Aside0 (w'.heap[gb234]? = some (.cells #[(.slice A0_0 l0_0.length c0_0), (.slice A0_1 l0_1.length c0_1)] 26 (0, 0))) ∧ Aside0 (Below w.heap.size w w'))
    case atStart => exact ⟨(0), (g3_), H', ⟨Nat.le_refl _⟩, ⟨uf1_ HO238⟩, ⟨uf0_ BK234⟩, ⟨impl_arePays.calls_q0⟩⟩
    case round =>
     clear H'
     try clear c1
     try clear p2
     try clear c5
     try clear c6
     try clear c9
     try clear c12
     try clear hcz10_0
     try clear hcz10_1
     try clear hcz14_0
     try clear hcz14_1
     try clear hcz7_0
     try clear hcz7_1
     try clear hcz9_0
     try clear hcz9_1
     try clear hfz10_0
     try clear hfz10_1
     try clear hfz14_0
     try clear hfz14_1
     try clear hfz7_0
     try clear hfz7_1
     try clear hfz9_0
     try clear hfz9_1
     try clear p2
     obtain ⟨x21_2, rfl, HA, HK2, HO_19, BK234, HB⟩ := hrel
     cases gk with
     | zero => exact absurd HA.out (by simp [impl_arePays.l0])
     | succ k2 =>
      have H := HA.out
      clear HA
      simp only [impl_arePays.l0] at H
      by_cases c17 : x21_2 < (t236.length : Int)
      ·rw [if_pos c17] at H
       have c17b0 := decide_eq_true c17
       clear c17
       by_cases c18 : 0 ≤ x21_2
       ·rw [if_pos c18] at H
        have c18b0 := decide_eq_true c18
        clear c18
        by_cases c19 : x21_2 < (t236.length : Int)
        ·rw [if_pos c19] at H
         have c19b0 := decide_eq_true c19
         clear c19
         by_cases c20 : x21_2 < (l1.length : Int)
         ·rw [if_pos c20] at H
          have c20b0 := decide_eq_true c20
          clear c20
          obtain ⟨t241, A21, H⟩ := bind_ H
          by_cases c22 : t241 = true
          ·subst c22
           replace H := ifp_ H
           by_cases c23 : ((rd_T36 l1 x21_2).f0) < 0
           ·rw [if_pos c23] at H
            have c23b0 := decide_eq_true c23
            clear c23
            obtain rfl := Option.some.inj H
            have p239 : 0 ≤ (x21_2 : Int) := of_decide_eq_true (g1_)
            have q239 : x21_2 < (t236.length : Int) := of_decide_eq_true (g1_)
            obtain ⟨ad239, e239, hx239_0⟩ := Kd.at_int (Kd.R_reads' HO_19.out).2.2 x21_2 p239 q239
            cases e239
            replace p239 := eq_true p239
            replace q239 := eq_true q239
            try go_wp2
            replace HO_19 := Aside0.mk (Kd.R_drew HO_19.out)
            replace BK234 := Aside0.mk (blk_drew BK234.out)
            replace HB := Aside0.mk (below_drew1 HB.out)
            have p240 : 0 ≤ (x21_2 : Int) := of_decide_eq_true (g1_)
            have q240 : x21_2 < (l1.length : Int) := of_decide_eq_true (g1_)
            obtain ⟨ad240, e240, hx240_0, hx240_1⟩ := at_T36 HR1.out x21_2 p240 q240
            have hw240_1 := hx240_1
            have hw240_0 := hx240_0
            cases e240
            replace hx240_0 := cl_ HB hx240_0
            replace hx240_1 := cl_ HB hx240_1
            replace p240 := eq_true p240
            replace q240 := eq_true q240
            have p242 : 0 ≤ (x21_2 : Int) := of_decide_eq_true (g1_)
            have q242 : x21_2 < (l1.length : Int) := of_decide_eq_true (g1_)
            obtain ⟨ad242, e242, hx242_0, hx242_1⟩ := at_T36 HR1.out x21_2 p242 q242
            have hw242_1 := hx242_1
            have hw242_0 := hx242_0
            obtain rfl : ad240 = ad242 := (by injection e242)
            replace hx242_0 := cl_ HB hx242_0
            replace hx242_1 := cl_ HB hx242_1
            replace p242 := eq_true p242
            replace q242 := eq_true q242
            refine start_ (n := 24) (S := fun w' => w'.cell? (ad240.add ((x21_2).toNat * 2)) = some (.int .i64 ((rd_T36 l1 x21_2).f0)) ∧ w'.cell? ⟨(ad240.add ((x21_2).toNat * 2)).block, (ad240.add ((x21_2).toNat * 2)).off + 1, none⟩ = some (.int .i64 ((rd_T36 l1 x21_2).f1)) ∧ w'.cell? (ad240.add ((x21_2).toNat * 2)) = some (.int .i64 ((rd_T36 l1 x21_2).f0)) ∧ w'.cell? ⟨(ad240.add ((x21_2).toNat * 2)).block, (ad240.add ((x21_2).toNat * 2)).off + 1, none⟩ = some (.int .i64 ((rd_T36 l1 x21_2).f1))) (ds := []) (tl_ 24 0) (g0_) rfl (g0_) ⟨((cl_ HB hw240_0).trans rfl), ((cl_ HB hw240_1).trans rfl), ((cl_ HB hw242_0).trans rfl), ((cl_ HB hw242_1).trans rfl)⟩ (fun hHeld => ?_); refine with_tabW impl_arePays.tab6 impl_arePays.bits6 (fun HT_ HW_ => ?_)
            generalize wr.drew = w24 at HO_19 BK234 HB hx240_0 hx240_1 hx242_0 hx242_1 hHeld ⊢
            refine pw_ 0 26 (tl_ 24 1) rfl rfl ?_
            refine pw_ 1 27 (tl_ 24 3) rfl rfl ?_
            refine pw_ 2 28 (tl_ 24 7) rfl rfl ?_
            refine tk3_ 3 29 (tl_ 24 15) rfl rfl hHeld ?_
            refine one_ (i := 4) (N := some 30) (tl_ 24 31) rfl rfl (one_of HT_.out (g0_)) (by decide) (fun K hK => ?_)
            refine goes_ Try.func77 (g0_) rfl #[.agg #[.int .i64 ((rd_T36 l1 x21_2).f0), .int .i64 ((rd_T36 l1 x21_2).f1)]] (by rfl) rfl rfl (g2_) ?_
            with_reducible refine (impl_isFrac.calls k2 ((rd_T36 l1 x21_2).f0) ((rd_T36 l1 x21_2).f1) true _ A21.out).mono ?_
            rintro e w25 ⟨rfl, hb⟩
            refine ⟨_, rfl, ?_⟩
            replace HO_19 := Aside0.mk (Kd.R_below (uf1_ HO_19) hb)
            replace BK234 := Aside0.mk (blk_below (g := gb234) (o := .cells #[.slice A0_0 l0_0.length c0_0, .slice A0_1 l0_1.length c0_1] 26 (0, 0)) (uf0_ BK234) hb)
            replace HB := Aside0.mk (below_step (impl_arePays.calls_q0) hb)
            (try clear hb)
            (try clear hk hi)
            refine hK.out _ _ ⟨((cl_ HB hw240_0).trans rfl), ((cl_ HB hw240_1).trans rfl), ((cl_ HB hw242_0).trans rfl), ((cl_ HB hw242_1).trans rfl)⟩ (fun hHeld => ?_)
            clear hK K
            refine nm_ ?_
            refine pw_ 5 31 (tl_ 24 63) rfl rfl ?_
            refine pw_ 6 32 (tl_ 24 127) rfl rfl ?_
            refine pw_ 7 33 (tl_ 24 255) rfl rfl ?_
            refine pw_ 8 34 (tl_ 24 511) rfl rfl ?_
            refine pw_ 9 35 (tl_ 24 1023) rfl rfl ?_
            refine pw_ 10 36 (tl_ 24 2047) rfl rfl ?_
            refine tk3_ 11 37 (tl_ 24 4095) rfl rfl hHeld ?_
            refine pw_ 12 38 (tl_ 24 8191) rfl rfl ?_
            refine pw_ 13 39 (tl_ 24 16383) rfl rfl ?_
            refine pw_ 14 40 (tl_ 24 32767) rfl rfl ?_
            refine pure_ (i := 15) (N := some 41) (v := undef) (a' := ?_) (tl_ 24 65535) rfl rfl (any_of HT_.out (g0_)) (fun _ _ _ h => h) (Or.inr ⟨by rfl, rfl⟩) ?_ ?_
            rotate_left
            ·simp only [Act.put, List.setIfInBounds_toArray, List.set_cons_zero, List.set_cons_succ, i64_w, i32_w]
             rfl
            refine pure_ (i := 16) (N := some 42) (v := undef) (a' := ?_) (tl_ 24 131071) rfl rfl (any_of HT_.out (g0_)) (fun _ _ _ h => h) (Or.inr ⟨by rfl, rfl⟩) ?_ ?_
            rotate_left
            ·simp only [Act.put, List.setIfInBounds_toArray, List.set_cons_zero, List.set_cons_succ, i64_w, i32_w]
             rfl
            refine pure_ (i := 17) (N := some 43) (v := undef) (a' := ?_) (tl_ 24 262143) rfl rfl (any_of HT_.out (g0_)) (fun _ _ _ h => h) (Or.inr ⟨by rfl, rfl⟩) ?_ ?_
            rotate_left
            ·simp only [Act.put, List.setIfInBounds_toArray, List.set_cons_zero, List.set_cons_succ, i64_w, i32_w]
             rfl
            refine pure_ (i := 18) (N := some 44) (v := undef) (a' := ?_) (tl_ 24 524287) rfl rfl (any_of HT_.out (g0_)) (fun _ _ _ h => h) (Or.inr ⟨by rfl, rfl⟩) ?_ ?_
            rotate_left
            ·simp only [Act.put, List.setIfInBounds_toArray, List.set_cons_zero, List.set_cons_succ, i64_w, i32_w]
             rfl
            refine pure_ (i := 19) (N := some 45) (v := undef) (a' := ?_) (tl_ 24 1048575) rfl rfl (any_of HT_.out (g0_)) (fun _ _ _ h => h) (Or.inr ⟨by rfl, rfl⟩) ?_ ?_
            rotate_left
            ·simp only [Act.put, List.setIfInBounds_toArray, List.set_cons_zero, List.set_cons_succ, i64_w, i32_w]
             rfl
            refine pure_ (i := 20) (N := some 46) (v := undef) (a' := ?_) (tl_ 24 2097151) rfl rfl (any_of HT_.out (g0_)) (fun _ _ _ h => h) (Or.inr ⟨by rfl, rfl⟩) ?_ ?_
            rotate_left
            ·simp only [Act.put, List.setIfInBounds_toArray, List.set_cons_zero, List.set_cons_succ, i64_w, i32_w]
             rfl
            refine pure_ (i := 21) (N := some 47) (v := undef) (a' := ?_) (tl_ 24 4194303) rfl rfl (any_of HT_.out (g0_)) (fun _ _ _ h => h) (Or.inr ⟨by rfl, rfl⟩) ?_ ?_
            rotate_left
            ·simp only [Act.put, List.setIfInBounds_toArray, List.set_cons_zero, List.set_cons_succ, i64_w, i32_w]
             rfl
            refine pure_ (i := 22) (N := some 48) (v := undef) (a' := ?_) (tl_ 24 8388607) rfl rfl (any_of HT_.out (g0_)) (fun _ _ _ h => h) (Or.inr ⟨by rfl, rfl⟩) ?_ ?_
            rotate_left
            ·simp only [Act.put, List.setIfInBounds_toArray, List.set_cons_zero, List.set_cons_succ, i64_w, i32_w]
             rfl
            refine pw_ 23 49 (tl_ 24 16777215) rfl rfl ?_
            refine done_ (done_of HT_.out (g0_)) ?_
            try go_wp2
            go_ret
            exact ⟨g4_, impl_arePays.calls_q0⟩
           ·rw [if_neg c23] at H
            have c23b0 := decide_eq_false c23
            clear c23
            replace H := Option.bind_eq_some_iff.mp H
            obtain ⟨⟨t244, t245⟩, A260, H⟩ := H
            replace H : ((impl_compare.f ((rd_T36 l1 x21_2).f0) ((rd_T36 l1 x21_2).f1) t244 t245).bind fun t246 => (if t246 > 0 then (some false) else (impl_arePays.l0 k2 l1 t236 (t236.length : Int) (wrap64 (x21_2 + 1))))) = some r := H
            have A26 := Aside0.mk A260
            clear A260
            obtain ⟨t246, A27, H⟩ := bind_ H
            by_cases c28 : t246 > 0
            ·rw [if_pos c28] at H
             have c28b0 := decide_eq_true c28
             clear c28
             obtain rfl := Option.some.inj H
             have p239 : 0 ≤ (x21_2 : Int) := of_decide_eq_true (g1_)
             have q239 : x21_2 < (t236.length : Int) := of_decide_eq_true (g1_)
             obtain ⟨ad239, e239, hx239_0⟩ := Kd.at_int (Kd.R_reads' HO_19.out).2.2 x21_2 p239 q239
             cases e239
             replace p239 := eq_true p239
             replace q239 := eq_true q239
             try go_wp2
             replace HO_19 := Aside0.mk (Kd.R_drew HO_19.out)
             replace BK234 := Aside0.mk (blk_drew BK234.out)
             replace HB := Aside0.mk (below_drew1 HB.out)
             have p240 : 0 ≤ (x21_2 : Int) := of_decide_eq_true (g1_)
             have q240 : x21_2 < (l1.length : Int) := of_decide_eq_true (g1_)
             obtain ⟨ad240, e240, hx240_0, hx240_1⟩ := at_T36 HR1.out x21_2 p240 q240
             have hw240_1 := hx240_1
             have hw240_0 := hx240_0
             cases e240
             replace hx240_0 := cl_ HB hx240_0
             replace hx240_1 := cl_ HB hx240_1
             replace p240 := eq_true p240
             replace q240 := eq_true q240
             have p242 : 0 ≤ (x21_2 : Int) := of_decide_eq_true (g1_)
             have q242 : x21_2 < (l1.length : Int) := of_decide_eq_true (g1_)
             obtain ⟨ad242, e242, hx242_0, hx242_1⟩ := at_T36 HR1.out x21_2 p242 q242
             have hw242_1 := hx242_1
             have hw242_0 := hx242_0
             obtain rfl : ad240 = ad242 := (by injection e242)
             replace hx242_0 := cl_ HB hx242_0
             replace hx242_1 := cl_ HB hx242_1
             replace p242 := eq_true p242
             replace q242 := eq_true q242
             have p243 : 0 ≤ (x21_2 : Int) := of_decide_eq_true (g1_)
             have q243 : x21_2 < (l1.length : Int) := of_decide_eq_true (g1_)
             obtain ⟨ad243, e243, hx243_0, hx243_1⟩ := at_T36 HR1.out x21_2 p243 q243
             have hw243_1 := hx243_1
             have hw243_0 := hx243_0
             obtain rfl : ad240 = ad243 := (by injection e243)
             replace hx243_0 := cl_ HB hx243_0
             replace hx243_1 := cl_ HB hx243_1
             replace p243 := eq_true p243
             replace q243 := eq_true q243
             refine start_ (n := 24) (S := fun w' => w'.cell? (ad240.add ((x21_2).toNat * 2)) = some (.int .i64 ((rd_T36 l1 x21_2).f0)) ∧ w'.cell? ⟨(ad240.add ((x21_2).toNat * 2)).block, (ad240.add ((x21_2).toNat * 2)).off + 1, none⟩ = some (.int .i64 ((rd_T36 l1 x21_2).f1)) ∧ w'.cell? (ad240.add ((x21_2).toNat * 2)) = some (.int .i64 ((rd_T36 l1 x21_2).f0)) ∧ w'.cell? ⟨(ad240.add ((x21_2).toNat * 2)).block, (ad240.add ((x21_2).toNat * 2)).off + 1, none⟩ = some (.int .i64 ((rd_T36 l1 x21_2).f1)) ∧ w'.cell? (ad240.add ((x21_2).toNat * 2)) = some (.int .i64 ((rd_T36 l1 x21_2).f0)) ∧ w'.cell? ⟨(ad240.add ((x21_2).toNat * 2)).block, (ad240.add ((x21_2).toNat * 2)).off + 1, none⟩ = some (.int .i64 ((rd_T36 l1 x21_2).f1))) (ds := []) (tl_ 24 0) (g0_) rfl (g0_) ⟨((cl_ HB hw240_0).trans rfl), ((cl_ HB hw240_1).trans rfl), ((cl_ HB hw242_0).trans rfl), ((cl_ HB hw242_1).trans rfl), ((cl_ HB hw243_0).trans rfl), ((cl_ HB hw243_1).trans rfl)⟩ (fun hHeld => ?_); refine with_tabW impl_arePays.tab6 impl_arePays.bits6 (fun HT_ HW_ => ?_)
             generalize wr.drew = w29 at HO_19 BK234 HB hx240_0 hx240_1 hx242_0 hx242_1 hx243_0 hx243_1 hHeld ⊢
             refine pw_ 0 26 (tl_ 24 1) rfl rfl ?_
             refine pw_ 1 27 (tl_ 24 3) rfl rfl ?_
             refine pw_ 2 28 (tl_ 24 7) rfl rfl ?_
             refine tk2_ 3 29 (tl_ 24 15) rfl rfl hHeld ?_
             refine one_ (i := 4) (N := some 30) (tl_ 24 31) rfl rfl (one_of HT_.out (g0_)) (by decide) (fun K hK => ?_)
             refine goes_ Try.func77 (g0_) rfl #[.agg #[.int .i64 ((rd_T36 l1 x21_2).f0), .int .i64 ((rd_T36 l1 x21_2).f1)]] (by rfl) rfl rfl (g2_) ?_
             with_reducible refine (impl_isFrac.calls k2 ((rd_T36 l1 x21_2).f0) ((rd_T36 l1 x21_2).f1) true _ A21.out).mono ?_
             rintro e w30 ⟨rfl, hb⟩
             refine ⟨_, rfl, ?_⟩
             replace HO_19 := Aside0.mk (Kd.R_below (uf1_ HO_19) hb)
             replace BK234 := Aside0.mk (blk_below (g := gb234) (o := .cells #[.slice A0_0 l0_0.length c0_0, .slice A0_1 l0_1.length c0_1] 26 (0, 0)) (uf0_ BK234) hb)
             replace HB := Aside0.mk (below_step (impl_arePays.calls_q0) hb)
             (try clear hb)
             (try clear hk hi)
             refine hK.out _ _ ⟨((cl_ HB hw240_0).trans rfl), ((cl_ HB hw240_1).trans rfl), ((cl_ HB hw242_0).trans rfl), ((cl_ HB hw242_1).trans rfl), ((cl_ HB hw243_0).trans rfl), ((cl_ HB hw243_1).trans rfl)⟩ (fun hHeld => ?_)
             clear hK K
             refine nm_ ?_
             refine pw_ 5 31 (tl_ 24 63) rfl rfl ?_
             refine pw_ 6 32 (tl_ 24 127) rfl rfl ?_
             refine pw_ 7 33 (tl_ 24 255) rfl rfl ?_
             refine pw_ 8 34 (tl_ 24 511) rfl rfl ?_
             refine pw_ 9 35 (tl_ 24 1023) rfl rfl ?_
             refine pw_ 10 36 (tl_ 24 2047) rfl rfl ?_
             refine tk2_ 11 37 (tl_ 24 4095) rfl rfl hHeld ?_
             refine pw_ 12 38 (tl_ 24 8191) rfl rfl ?_
             refine pw_ 13 39 (tl_ 24 16383) rfl rfl ?_
             refine pw_ 14 40 (tl_ 24 32767) rfl rfl ?_
             refine pw_ 15 41 (tl_ 24 65535) rfl rfl ?_
             refine pw_ 16 42 (tl_ 24 131071) rfl rfl ?_
             refine pw_ 17 43 (tl_ 24 262143) rfl rfl ?_
             refine pw_ 19 45 (tl_ 24 786431) rfl rfl ?_
             refine tk2_ 18 44 (tl_ 24 1048575) rfl rfl hHeld ?_
             refine one_ (i := 20) (N := some 46) (tl_ 24 2097151) rfl rfl (one_of HT_.out (g0_)) (by decide) (fun K hK => ?_)
             refine goes_ Try.func89 (g0_) rfl #[.int .i64 (rd t236 x21_2)] (by rfl) rfl rfl (g2_) ?_
             with_reducible refine (impl_whole.calls (rd t236 x21_2) t244 t245 _ A26.out).mono ?_
             rintro e w31 ⟨rfl, hb⟩
             refine ⟨_, rfl, ?_⟩
             replace HO_19 := Aside0.mk (Kd.R_below (uf1_ HO_19) hb)
             replace BK234 := Aside0.mk (blk_below (g := gb234) (o := .cells #[.slice A0_0 l0_0.length c0_0, .slice A0_1 l0_1.length c0_1] 26 (0, 0)) (uf0_ BK234) hb)
             replace HB := Aside0.mk (below_step (impl_arePays.calls_q0) hb)
             (try clear hb)
             (try clear hk hi)
             refine hK.out _ _ ⟨((cl_ HB hw240_0).trans rfl), ((cl_ HB hw240_1).trans rfl), ((cl_ HB hw242_0).trans rfl), ((cl_ HB hw242_1).trans rfl), ((cl_ HB hw243_0).trans rfl), ((cl_ HB hw243_1).trans rfl)⟩ (fun hHeld => ?_)
             clear hK K
             refine nm_ ?_
             refine one_ (i := 21) (N := some 47) (tl_ 24 4194303) rfl rfl (one_of HT_.out (g0_)) (by decide) (fun K hK => ?_)
             refine goes_ Try.func78 (g0_) rfl #[.agg #[.int .i64 ((rd_T36 l1 x21_2).f0), .int .i64 ((rd_T36 l1 x21_2).f1)], .agg #[.int .i64 t244, .int .i64 t245]] (by rfl) rfl rfl (g2_) ?_
             with_reducible refine (impl_compare.calls ((rd_T36 l1 x21_2).f0) ((rd_T36 l1 x21_2).f1) t244 t245 t246 _ A27.out).mono ?_
             rintro e w32 ⟨rfl, hb⟩
             refine ⟨_, rfl, ?_⟩
             replace HO_19 := Aside0.mk (Kd.R_below (uf1_ HO_19) hb)
             replace BK234 := Aside0.mk (blk_below (g := gb234) (o := .cells #[.slice A0_0 l0_0.length c0_0, .slice A0_1 l0_1.length c0_1] 26 (0, 0)) (uf0_ BK234) hb)
             replace HB := Aside0.mk (below_step (impl_arePays.calls_q0) hb)
             (try clear hb)
             (try clear hk hi)
             refine hK.out _ _ ⟨((cl_ HB hw240_0).trans rfl), ((cl_ HB hw240_1).trans rfl), ((cl_ HB hw242_0).trans rfl), ((cl_ HB hw242_1).trans rfl), ((cl_ HB hw243_0).trans rfl), ((cl_ HB hw243_1).trans rfl)⟩ (fun hHeld => ?_)
             clear hK K
             refine nm_ ?_
             refine pw_ 22 48 (tl_ 24 8388607) rfl rfl ?_
             refine pw_ 23 49 (tl_ 24 16777215) rfl rfl ?_
             refine done_ (done_of HT_.out (g0_)) ?_
             try go_wp2
             go_ret
             exact ⟨g4_, impl_arePays.calls_q0⟩
            ·rw [if_neg c28] at H
             have c28b0 := decide_eq_false c28
             clear c28
             have H' := Aside0.mk H
             clear H
             have p239 : 0 ≤ (x21_2 : Int) := of_decide_eq_true (g1_)
             have q239 : x21_2 < (t236.length : Int) := of_decide_eq_true (g1_)
             obtain ⟨ad239, e239, hx239_0⟩ := Kd.at_int (Kd.R_reads' HO_19.out).2.2 x21_2 p239 q239
             cases e239
             replace p239 := eq_true p239
             replace q239 := eq_true q239
             try go_wp2
             replace HO_19 := Aside0.mk (Kd.R_drew HO_19.out)
             replace BK234 := Aside0.mk (blk_drew BK234.out)
             replace HB := Aside0.mk (below_drew1 HB.out)
             have p240 : 0 ≤ (x21_2 : Int) := of_decide_eq_true (g1_)
             have q240 : x21_2 < (l1.length : Int) := of_decide_eq_true (g1_)
             obtain ⟨ad240, e240, hx240_0, hx240_1⟩ := at_T36 HR1.out x21_2 p240 q240
             have hw240_1 := hx240_1
             have hw240_0 := hx240_0
             cases e240
             replace hx240_0 := cl_ HB hx240_0
             replace hx240_1 := cl_ HB hx240_1
             replace p240 := eq_true p240
             replace q240 := eq_true q240
             have p242 : 0 ≤ (x21_2 : Int) := of_decide_eq_true (g1_)
             have q242 : x21_2 < (l1.length : Int) := of_decide_eq_true (g1_)
             obtain ⟨ad242, e242, hx242_0, hx242_1⟩ := at_T36 HR1.out x21_2 p242 q242
             have hw242_1 := hx242_1
             have hw242_0 := hx242_0
             obtain rfl : ad240 = ad242 := (by injection e242)
             replace hx242_0 := cl_ HB hx242_0
             replace hx242_1 := cl_ HB hx242_1
             replace p242 := eq_true p242
             replace q242 := eq_true q242
             have p243 : 0 ≤ (x21_2 : Int) := of_decide_eq_true (g1_)
             have q243 : x21_2 < (l1.length : Int) := of_decide_eq_true (g1_)
             obtain ⟨ad243, e243, hx243_0, hx243_1⟩ := at_T36 HR1.out x21_2 p243 q243
             have hw243_1 := hx243_1
             have hw243_0 := hx243_0
             obtain rfl : ad240 = ad243 := (by injection e243)
             replace hx243_0 := cl_ HB hx243_0
             replace hx243_1 := cl_ HB hx243_1
             replace p243 := eq_true p243
             replace q243 := eq_true q243
             refine start_ (n := 24) (S := fun w' => w'.cell? (ad240.add ((x21_2).toNat * 2)) = some (.int .i64 ((rd_T36 l1 x21_2).f0)) ∧ w'.cell? ⟨(ad240.add ((x21_2).toNat * 2)).block, (ad240.add ((x21_2).toNat * 2)).off + 1, none⟩ = some (.int .i64 ((rd_T36 l1 x21_2).f1)) ∧ w'.cell? (ad240.add ((x21_2).toNat * 2)) = some (.int .i64 ((rd_T36 l1 x21_2).f0)) ∧ w'.cell? ⟨(ad240.add ((x21_2).toNat * 2)).block, (ad240.add ((x21_2).toNat * 2)).off + 1, none⟩ = some (.int .i64 ((rd_T36 l1 x21_2).f1)) ∧ w'.cell? (ad240.add ((x21_2).toNat * 2)) = some (.int .i64 ((rd_T36 l1 x21_2).f0)) ∧ w'.cell? ⟨(ad240.add ((x21_2).toNat * 2)).block, (ad240.add ((x21_2).toNat * 2)).off + 1, none⟩ = some (.int .i64 ((rd_T36 l1 x21_2).f1))) (ds := []) (tl_ 24 0) (g0_) rfl (g0_) ⟨((cl_ HB hw240_0).trans rfl), ((cl_ HB hw240_1).trans rfl), ((cl_ HB hw242_0).trans rfl), ((cl_ HB hw242_1).trans rfl), ((cl_ HB hw243_0).trans rfl), ((cl_ HB hw243_1).trans rfl)⟩ (fun hHeld => ?_); refine with_tabW impl_arePays.tab6 impl_arePays.bits6 (fun HT_ HW_ => ?_)
             generalize wr.drew = w33 at HO_19 BK234 HB hx240_0 hx240_1 hx242_0 hx242_1 hx243_0 hx243_1 hHeld ⊢
             refine pw_ 0 26 (tl_ 24 1) rfl rfl ?_
             refine pw_ 1 27 (tl_ 24 3) rfl rfl ?_
             refine pw_ 2 28 (tl_ 24 7) rfl rfl ?_
             refine tk2_ 3 29 (tl_ 24 15) rfl rfl hHeld ?_
             refine one_ (i := 4) (N := some 30) (tl_ 24 31) rfl rfl (one_of HT_.out (g0_)) (by decide) (fun K hK => ?_)
             refine goes_ Try.func77 (g0_) rfl #[.agg #[.int .i64 ((rd_T36 l1 x21_2).f0), .int .i64 ((rd_T36 l1 x21_2).f1)]] (by rfl) rfl rfl (g2_) ?_
             with_reducible refine (impl_isFrac.calls k2 ((rd_T36 l1 x21_2).f0) ((rd_T36 l1 x21_2).f1) true _ A21.out).mono ?_
             rintro e w34 ⟨rfl, hb⟩
             refine ⟨_, rfl, ?_⟩
             replace HO_19 := Aside0.mk (Kd.R_below (uf1_ HO_19) hb)
             replace BK234 := Aside0.mk (blk_below (g := gb234) (o := .cells #[.slice A0_0 l0_0.length c0_0, .slice A0_1 l0_1.length c0_1] 26 (0, 0)) (uf0_ BK234) hb)
             replace HB := Aside0.mk (below_step (impl_arePays.calls_q0) hb)
             (try clear hb)
             (try clear hk hi)
             refine hK.out _ _ ⟨((cl_ HB hw240_0).trans rfl), ((cl_ HB hw240_1).trans rfl), ((cl_ HB hw242_0).trans rfl), ((cl_ HB hw242_1).trans rfl), ((cl_ HB hw243_0).trans rfl), ((cl_ HB hw243_1).trans rfl)⟩ (fun hHeld => ?_)
             clear hK K
             refine nm_ ?_
             refine pw_ 5 31 (tl_ 24 63) rfl rfl ?_
             refine pw_ 6 32 (tl_ 24 127) rfl rfl ?_
             refine pw_ 7 33 (tl_ 24 255) rfl rfl ?_
             refine pw_ 8 34 (tl_ 24 511) rfl rfl ?_
             refine pw_ 9 35 (tl_ 24 1023) rfl rfl ?_
             refine pw_ 10 36 (tl_ 24 2047) rfl rfl ?_
             refine tk2_ 11 37 (tl_ 24 4095) rfl rfl hHeld ?_
             refine pw_ 12 38 (tl_ 24 8191) rfl rfl ?_
             refine pw_ 13 39 (tl_ 24 16383) rfl rfl ?_
             refine pw_ 14 40 (tl_ 24 32767) rfl rfl ?_
             refine pw_ 15 41 (tl_ 24 65535) rfl rfl ?_
             refine pw_ 16 42 (tl_ 24 131071) rfl rfl ?_
             refine pw_ 17 43 (tl_ 24 262143) rfl rfl ?_
             refine pw_ 19 45 (tl_ 24 786431) rfl rfl ?_
             refine tk2_ 18 44 (tl_ 24 1048575) rfl rfl hHeld ?_
             refine one_ (i := 20) (N := some 46) (tl_ 24 2097151) rfl rfl (one_of HT_.out (g0_)) (by decide) (fun K hK => ?_)
             refine goes_ Try.func89 (g0_) rfl #[.int .i64 (rd t236 x21_2)] (by rfl) rfl rfl (g2_) ?_
             with_reducible refine (impl_whole.calls (rd t236 x21_2) t244 t245 _ A26.out).mono ?_
             rintro e w35 ⟨rfl, hb⟩
             refine ⟨_, rfl, ?_⟩
             replace HO_19 := Aside0.mk (Kd.R_below (uf1_ HO_19) hb)
             replace BK234 := Aside0.mk (blk_below (g := gb234) (o := .cells #[.slice A0_0 l0_0.length c0_0, .slice A0_1 l0_1.length c0_1] 26 (0, 0)) (uf0_ BK234) hb)
             replace HB := Aside0.mk (below_step (impl_arePays.calls_q0) hb)
             (try clear hb)
             (try clear hk hi)
             refine hK.out _ _ ⟨((cl_ HB hw240_0).trans rfl), ((cl_ HB hw240_1).trans rfl), ((cl_ HB hw242_0).trans rfl), ((cl_ HB hw242_1).trans rfl), ((cl_ HB hw243_0).trans rfl), ((cl_ HB hw243_1).trans rfl)⟩ (fun hHeld => ?_)
             clear hK K
             refine nm_ ?_
             refine one_ (i := 21) (N := some 47) (tl_ 24 4194303) rfl rfl (one_of HT_.out (g0_)) (by decide) (fun K hK => ?_)
             refine goes_ Try.func78 (g0_) rfl #[.agg #[.int .i64 ((rd_T36 l1 x21_2).f0), .int .i64 ((rd_T36 l1 x21_2).f1)], .agg #[.int .i64 t244, .int .i64 t245]] (by rfl) rfl rfl (g2_) ?_
             with_reducible refine (impl_compare.calls ((rd_T36 l1 x21_2).f0) ((rd_T36 l1 x21_2).f1) t244 t245 t246 _ A27.out).mono ?_
             rintro e w36 ⟨rfl, hb⟩
             refine ⟨_, rfl, ?_⟩
             replace HO_19 := Aside0.mk (Kd.R_below (uf1_ HO_19) hb)
             replace BK234 := Aside0.mk (blk_below (g := gb234) (o := .cells #[.slice A0_0 l0_0.length c0_0, .slice A0_1 l0_1.length c0_1] 26 (0, 0)) (uf0_ BK234) hb)
             replace HB := Aside0.mk (below_step (impl_arePays.calls_q0) hb)
             (try clear hb)
             (try clear hk hi)
             refine hK.out _ _ ⟨((cl_ HB hw240_0).trans rfl), ((cl_ HB hw240_1).trans rfl), ((cl_ HB hw242_0).trans rfl), ((cl_ HB hw242_1).trans rfl), ((cl_ HB hw243_0).trans rfl), ((cl_ HB hw243_1).trans rfl)⟩ (fun hHeld => ?_)
             clear hK K
             refine nm_ ?_
             refine pw_ 22 48 (tl_ 24 8388607) rfl rfl ?_
             refine pw_ 23 49 (tl_ 24 16777215) rfl rfl ?_
             refine done_ (done_of HT_.out (g0_)) ?_
             try go_wp2
             go_roundg k2
             case measure => have := HJ2.out; have := HK2.out; omega
             case rel => exact ⟨(wrap64 (x21_2 + 1)), (g3_), H', ⟨by have := HJ2.out; have := HK2.out; omega⟩, ⟨uf1_ HO_19⟩, ⟨uf0_ BK234⟩, ⟨impl_arePays.calls_q0⟩⟩
          ·replace c22 := Bool.eq_false_iff.mpr c22
           subst c22
           replace H := ifn_ H
           obtain rfl := Option.some.inj H
           have p239 : 0 ≤ (x21_2 : Int) := of_decide_eq_true (g1_)
           have q239 : x21_2 < (t236.length : Int) := of_decide_eq_true (g1_)
           obtain ⟨ad239, e239, hx239_0⟩ := Kd.at_int (Kd.R_reads' HO_19.out).2.2 x21_2 p239 q239
           cases e239
           replace p239 := eq_true p239
           replace q239 := eq_true q239
           try go_wp2
           replace HO_19 := Aside0.mk (Kd.R_drew HO_19.out)
           replace BK234 := Aside0.mk (blk_drew BK234.out)
           replace HB := Aside0.mk (below_drew1 HB.out)
           have p240 : 0 ≤ (x21_2 : Int) := of_decide_eq_true (g1_)
           have q240 : x21_2 < (l1.length : Int) := of_decide_eq_true (g1_)
           obtain ⟨ad240, e240, hx240_0, hx240_1⟩ := at_T36 HR1.out x21_2 p240 q240
           have hw240_1 := hx240_1
           have hw240_0 := hx240_0
           cases e240
           replace hx240_0 := cl_ HB hx240_0
           replace hx240_1 := cl_ HB hx240_1
           replace p240 := eq_true p240
           replace q240 := eq_true q240
           refine start_ (n := 24) (S := fun w' => w'.cell? (ad240.add ((x21_2).toNat * 2)) = some (.int .i64 ((rd_T36 l1 x21_2).f0)) ∧ w'.cell? ⟨(ad240.add ((x21_2).toNat * 2)).block, (ad240.add ((x21_2).toNat * 2)).off + 1, none⟩ = some (.int .i64 ((rd_T36 l1 x21_2).f1))) (ds := []) (tl_ 24 0) (g0_) rfl (g0_) ⟨((cl_ HB hw240_0).trans rfl), ((cl_ HB hw240_1).trans rfl)⟩ (fun hHeld => ?_); refine with_tabW impl_arePays.tab6 impl_arePays.bits6 (fun HT_ HW_ => ?_)
           generalize wr.drew = w37 at HO_19 BK234 HB hx240_0 hx240_1 hHeld ⊢
           refine pw_ 0 26 (tl_ 24 1) rfl rfl ?_
           refine pw_ 1 27 (tl_ 24 3) rfl rfl ?_
           refine pw_ 2 28 (tl_ 24 7) rfl rfl ?_
           refine tk0_ 3 29 (tl_ 24 15) rfl rfl hHeld ?_
           refine one_ (i := 4) (N := some 30) (tl_ 24 31) rfl rfl (one_of HT_.out (g0_)) (by decide) (fun K hK => ?_)
           refine goes_ Try.func77 (g0_) rfl #[.agg #[.int .i64 ((rd_T36 l1 x21_2).f0), .int .i64 ((rd_T36 l1 x21_2).f1)]] (by rfl) rfl rfl (g2_) ?_
           with_reducible refine (impl_isFrac.calls k2 ((rd_T36 l1 x21_2).f0) ((rd_T36 l1 x21_2).f1) false _ A21.out).mono ?_
           rintro e w38 ⟨rfl, hb⟩
           refine ⟨_, rfl, ?_⟩
           replace HO_19 := Aside0.mk (Kd.R_below (uf1_ HO_19) hb)
           replace BK234 := Aside0.mk (blk_below (g := gb234) (o := .cells #[.slice A0_0 l0_0.length c0_0, .slice A0_1 l0_1.length c0_1] 26 (0, 0)) (uf0_ BK234) hb)
           replace HB := Aside0.mk (below_step (impl_arePays.calls_q0) hb)
           (try clear hb)
           (try clear hk hi)
           refine hK.out _ _ ⟨((cl_ HB hw240_0).trans rfl), ((cl_ HB hw240_1).trans rfl)⟩ (fun hHeld => ?_)
           clear hK K
           refine nm_ ?_
           refine pw_ 5 31 (tl_ 24 63) rfl rfl ?_
           refine pw_ 6 32 (tl_ 24 127) rfl rfl ?_
           refine pure_ (i := 7) (N := some 33) (v := undef) (a' := ?_) (tl_ 24 255) rfl rfl (any_of HT_.out (g0_)) (fun _ _ _ h => h) (Or.inr ⟨by rfl, rfl⟩) ?_ ?_
           rotate_left
           ·simp only [Act.put, List.setIfInBounds_toArray, List.set_cons_zero, List.set_cons_succ, i64_w, i32_w]
            rfl
           refine pure_ (i := 8) (N := some 34) (v := undef) (a' := ?_) (tl_ 24 511) rfl rfl (any_of HT_.out (g0_)) (fun _ _ _ h => h) (Or.inr ⟨by rfl, rfl⟩) ?_ ?_
           rotate_left
           ·simp only [Act.put, List.setIfInBounds_toArray, List.set_cons_zero, List.set_cons_succ, i64_w, i32_w]
            rfl
           refine pure_ (i := 9) (N := some 35) (v := undef) (a' := ?_) (tl_ 24 1023) rfl rfl (any_of HT_.out (g0_)) (fun _ _ _ h => h) (Or.inr ⟨by rfl, rfl⟩) ?_ ?_
           rotate_left
           ·simp only [Act.put, List.setIfInBounds_toArray, List.set_cons_zero, List.set_cons_succ, i64_w, i32_w]
            rfl
           refine pure_ (i := 10) (N := some 36) (v := undef) (a' := ?_) (tl_ 24 2047) rfl rfl (any_of HT_.out (g0_)) (fun _ _ _ h => h) (Or.inr ⟨by rfl, rfl⟩) ?_ ?_
           rotate_left
           ·simp only [Act.put, List.setIfInBounds_toArray, List.set_cons_zero, List.set_cons_succ, i64_w, i32_w]
            rfl
           refine pure_ (i := 11) (N := some 37) (v := undef) (a' := ?_) (tl_ 24 4095) rfl rfl (any_of HT_.out (g0_)) (fun _ _ _ h => h) (Or.inr ⟨by rfl, rfl⟩) ?_ ?_
           rotate_left
           ·simp only [Act.put, List.setIfInBounds_toArray, List.set_cons_zero, List.set_cons_succ, i64_w, i32_w]
            rfl
           refine pure_ (i := 12) (N := some 38) (v := undef) (a' := ?_) (tl_ 24 8191) rfl rfl (any_of HT_.out (g0_)) (fun _ _ _ h => h) (Or.inr ⟨by rfl, rfl⟩) ?_ ?_
           rotate_left
           ·simp only [Act.put, List.setIfInBounds_toArray, List.set_cons_zero, List.set_cons_succ, i64_w, i32_w]
            rfl
           refine pw_ 13 39 (tl_ 24 16383) rfl rfl ?_
           refine pw_ 14 40 (tl_ 24 32767) rfl rfl ?_
           refine pure_ (i := 15) (N := some 41) (v := undef) (a' := ?_) (tl_ 24 65535) rfl rfl (any_of HT_.out (g0_)) (fun _ _ _ h => h) (Or.inr ⟨by rfl, rfl⟩) ?_ ?_
           rotate_left
           ·simp only [Act.put, List.setIfInBounds_toArray, List.set_cons_zero, List.set_cons_succ, i64_w, i32_w]
            rfl
           refine pure_ (i := 16) (N := some 42) (v := undef) (a' := ?_) (tl_ 24 131071) rfl rfl (any_of HT_.out (g0_)) (fun _ _ _ h => h) (Or.inr ⟨by rfl, rfl⟩) ?_ ?_
           rotate_left
           ·simp only [Act.put, List.setIfInBounds_toArray, List.set_cons_zero, List.set_cons_succ, i64_w, i32_w]
            rfl
           refine pure_ (i := 17) (N := some 43) (v := undef) (a' := ?_) (tl_ 24 262143) rfl rfl (any_of HT_.out (g0_)) (fun _ _ _ h => h) (Or.inr ⟨by rfl, rfl⟩) ?_ ?_
           rotate_left
           ·simp only [Act.put, List.setIfInBounds_toArray, List.set_cons_zero, List.set_cons_succ, i64_w, i32_w]
            rfl
           refine pure_ (i := 18) (N := some 44) (v := undef) (a' := ?_) (tl_ 24 524287) rfl rfl (any_of HT_.out (g0_)) (fun _ _ _ h => h) (Or.inr ⟨by rfl, rfl⟩) ?_ ?_
           rotate_left
           ·simp only [Act.put, List.setIfInBounds_toArray, List.set_cons_zero, List.set_cons_succ, i64_w, i32_w]
            rfl
           refine pure_ (i := 19) (N := some 45) (v := undef) (a' := ?_) (tl_ 24 1048575) rfl rfl (any_of HT_.out (g0_)) (fun _ _ _ h => h) (Or.inr ⟨by rfl, rfl⟩) ?_ ?_
           rotate_left
           ·simp only [Act.put, List.setIfInBounds_toArray, List.set_cons_zero, List.set_cons_succ, i64_w, i32_w]
            rfl
           refine pure_ (i := 20) (N := some 46) (v := undef) (a' := ?_) (tl_ 24 2097151) rfl rfl (any_of HT_.out (g0_)) (fun _ _ _ h => h) (Or.inr ⟨by rfl, rfl⟩) ?_ ?_
           rotate_left
           ·simp only [Act.put, List.setIfInBounds_toArray, List.set_cons_zero, List.set_cons_succ, i64_w, i32_w]
            rfl
           refine pure_ (i := 21) (N := some 47) (v := undef) (a' := ?_) (tl_ 24 4194303) rfl rfl (any_of HT_.out (g0_)) (fun _ _ _ h => h) (Or.inr ⟨by rfl, rfl⟩) ?_ ?_
           rotate_left
           ·simp only [Act.put, List.setIfInBounds_toArray, List.set_cons_zero, List.set_cons_succ, i64_w, i32_w]
            rfl
           refine pure_ (i := 22) (N := some 48) (v := undef) (a' := ?_) (tl_ 24 8388607) rfl rfl (any_of HT_.out (g0_)) (fun _ _ _ h => h) (Or.inr ⟨by rfl, rfl⟩) ?_ ?_
           rotate_left
           ·simp only [Act.put, List.setIfInBounds_toArray, List.set_cons_zero, List.set_cons_succ, i64_w, i32_w]
            rfl
           refine pw_ 23 49 (tl_ 24 16777215) rfl rfl ?_
           refine done_ (done_of HT_.out (g0_)) ?_
           try go_wp2
           go_ret
           exact ⟨g4_, impl_arePays.calls_q0⟩
         ·rw [if_neg c20] at H
          exact absurd H (by simp)
        ·rw [if_neg c19] at H
         exact absurd H (by simp)
       ·rw [if_neg c18] at H
        exact absurd H (by simp)
      ·rw [if_neg c17] at H
       have c17b0 := decide_eq_false c17
       clear c17
       obtain rfl := Option.some.inj H
       go_wp2
       go_ret
       exact ⟨g4_, impl_arePays.calls_q0⟩
end Go.Proofs.Ytigpmfoagkhaeaa.PU

namespace Go.Proofs.Ytigpmfoagkhaeaa.PU
open Go.RowKit Go.Proofs.YtigpmfoagkhaeaaW.PrintWords Go.Proofs.YtigpmfoagkhaeaaW.PrintLast Go.Proofs.YtigpmfoagkhaeaaW.PrintMore Go.Proofs.Ytigpmfoagkhaeaa.Qd
attribute [local go_sem] max2_int min2_int max_two min_two max_three min_three max_four min_four   -- for this text's walks alone
set_option linter.unusedVariables false
set_option linter.unusedSimpArgs false
def impl_lowest.f (k : Nat) (a0 : Int) (a1 : Int) : Option (Int × Int × Bool) := (impl_gcd.f k a0 a1).bind fun t248 => (if a1 < 0 then (if (wrap64 (-t248)) = 0 then (none) else ((impl_isFrac.f k (wrap64 (Int.tdiv a0 (wrap64 (-t248)))) (wrap64 (Int.tdiv a1 (wrap64 (-t248))))).bind fun t250 => (if t250 = true then (some (wrap64 (Int.tdiv a0 (wrap64 (-t248))), wrap64 (Int.tdiv a1 (wrap64 (-t248))), true)) else (some (0, 0, false))))) else (if t248 = 0 then (none) else ((impl_isFrac.f k (wrap64 (Int.tdiv a0 t248)) (wrap64 (Int.tdiv a1 t248))).bind fun t252 => (if t252 = true then (some (wrap64 (Int.tdiv a0 t248), wrap64 (Int.tdiv a1 t248), true)) else (some (0, 0, false))))))
theorem impl_lowest.mono : ∀ a0 a1 k, LeO (impl_lowest.f k a0 a1) (impl_lowest.f (k + 1) a0 a1) := by
 intro a0 a1 k
 unfold impl_lowest.f
 repeat' first
   | (with_reducible exact impl_gcd.mono _ _ _)
   | (with_reducible exact impl_isFrac.mono _ _ _)
   | (with_reducible exact LeO.refl _)
   | (with_reducible exact LeO.none _)
   | (with_reducible refine LeO.ite ?_ ?_)
   | (with_reducible refine LeO.bind ?_ (fun _ => ?_))
   | exact impl_gcd.mono _ _ _
   | exact impl_isFrac.mono _ _ _
   | exact LeO.none _
   | refine LeO.ite ?_ ?_
   | refine LeO.bind ?_ (fun _ => ?_)
def impl_lowest.T4 : Bool × List (List Nat × List Nat) := (true, [([], []), ([], []), ([0, 1], [0, 1]), ([], []), ([], []), ([3, 4], [3, 4]), ([2, 5], [2, 5]), ([], []), ([7, 6, 0, 1, 2, 3, 4, 5, 6, 7], [6, 7])])
def impl_lowest.B4 : List Nat := [0, 0, 3, 0, 0, 24, 63, 0, 255]
theorem impl_lowest.tab4 : rtab .any (opsOf Try.f92 4) = impl_lowest.T4 := by kernel_rfl
theorem impl_lowest.bits4 : waitsOk impl_lowest.T4.2 impl_lowest.B4 = true := by kernel_rfl
theorem impl_lowest.calls_q0 {p : Prop} (h : p := by repeat (first | (with_reducible first | exact HB.out | apply below_alloc | apply pw_below_drewN | apply below_drew1 | refine below_set ?_ GE247.out | refine below_set ?_ GE249.out | refine below_set ?_ GE251.out) | exact HB.out)) : p := h
set_option maxHeartbeats 8000000 in
set_option maxRecDepth 100000 in
theorem impl_lowest.calls (k : Nat) (a0 : Int) (a1 : Int) (r1 : Int) (r2 : Int) (r3 : Bool) (w : World) (h : impl_lowest.f k a0 a1 = some (r1, r2, r3)) :
  Calls Try.prog 92 #[.int .i64 a0, .int .i64 a1] w fun e w' => e = .returned (.tuple #[.agg #[.int .i64 r1, .int .i64 r2], .bool r3]) ∧ Below w.heap.size w w' := by
 have hu36 := Try.underlying36
 have HB := Aside0.mk (Below.refl w.heap.size w)
 have H : ((impl_gcd.f k a0 a1).bind fun t248 => (if a1 < 0 then (if (wrap64 (-t248)) = 0 then (none) else ((impl_isFrac.f k (wrap64 (Int.tdiv a0 (wrap64 (-t248)))) (wrap64 (Int.tdiv a1 (wrap64 (-t248))))).bind fun t250 => (if t250 = true then (some (wrap64 (Int.tdiv a0 (wrap64 (-t248))), wrap64 (Int.tdiv a1 (wrap64 (-t248))), true)) else (some (0, 0, false))))) else (if t248 = 0 then (none) else ((impl_isFrac.f k (wrap64 (Int.tdiv a0 t248)) (wrap64 (Int.tdiv a1 t248))).bind fun t252 => (if t252 = true then (some (wrap64 (Int.tdiv a0 t248), wrap64 (Int.tdiv a1 t248), true)) else (some (0, 0, false))))))) = some (r1, r2, r3) := h
 clear h
 obtain ⟨t248, A3, H⟩ := bind_ H
 by_cases c4 : a1 < 0
 ·rw [if_pos c4] at H
  have c4b0 := decide_eq_true c4
  clear c4
  by_cases c5 : (wrap64 (-t248)) = 0
  ·rw [if_pos c5] at H
   exact absurd H (by simp)
  ·rw [if_neg c5] at H
   have c5b0 : ((wrap64 (-t248)) == 0) = false := beq_eq_false_iff_ne.mpr c5
   have c5b1 : ((wrap64 (-t248)) != 0) = true := bne_iff_ne.mpr c5
   obtain ⟨t250, A6, H⟩ := bind_ H
   by_cases c7 : t250 = true
   ·subst c7
    replace H := ifp_ H
    simp only [Option.some.injEq, Prod.mk.injEq] at H
    obtain ⟨rfl, rfl, rfl⟩ := H
    go_enter Try.func92, Try.ntmps92
    try go_wp2_with (first | ((with_reducible refine gate_dst (N := 4) rfl ?_); refine bx_ (N := 4) #[.int .i64 0, .int .i64 0] 36 ?_; intro gb247 hg w8 hbox hb; have BK247 := Aside0.mk (hbox); have GW247 := Aside0.mk ((g18_ : w.heap.size ≤ gb247)); have GE247 := Aside0.mk ((g18_ : w.heap.size ≤ gb247)); replace HB := Aside0.mk (below_step (impl_lowest.calls_q0) hb); clear hb hbox hg) | ((with_reducible refine gate_callee (f := 97) rfl ?_); refine goesL_ (some 10) rfl rfl Try.func97 k_ rfl #[.int .i64 a0, .int .i64 a1] rfl (g2_) ?_; (with_reducible refine (impl_gcd.calls k a0 a1 t248 _ A3.out).mono ?_); rintro e w9 ⟨rfl, hb⟩; refine ⟨_, rfl, ?_⟩; replace BK247 := Aside0.mk (blk_below (g := gb247) (o := .cells #[.int .i64 0, .int .i64 0] 36 (0, 0)) (uf0_ BK247) hb); replace HB := Aside0.mk (below_step (impl_lowest.calls_q0) hb); (try clear hb); (try clear hk hi)))
    replace BK247 := Aside0.mk (blk_drew BK247.out)
    replace HB := Aside0.mk (below_drew1 HB.out)
    refine start_ (n := 9) (S := fun w' => True) (ds := []) (tl_ 9 0) (g0_) rfl (g0_) trivial (fun hHeld => ?_); refine with_tabW impl_lowest.tab4 impl_lowest.bits4 (fun HT_ HW_ => ?_)
    generalize w9.drew = w10 at BK247 HB hHeld ⊢
    refine pw_ 0 15 (tl_ 9 1) rfl rfl ?_
    refine pw_ 1 16 (tl_ 9 3) rfl rfl ?_
    refine pw_ 2 17 (tl_ 9 7) rfl rfl ?_
    refine pw_ 3 18 (tl_ 9 15) rfl rfl ?_
    refine pw_ 4 19 (tl_ 9 31) rfl rfl ?_
    refine pw_ 5 20 (tl_ 9 63) rfl rfl ?_
    refine pw_ 6 21 (tl_ 9 127) rfl rfl ?_
    refine one_ (i := 7) (N := some 7) (tl_ 9 255) rfl rfl (one_of HT_.out (g0_)) (by decide) (fun K hK => ?_)
    refine box_step ?hg (N := 7) ?hd (cs := #[.int .i64 0, .int .i64 0]) (t := 36) ?hr ?_; (case hd => rfl); (case hg => rfl); (case hr => first | (go_simp; done) | (go_simp; rfl))
    intro gb249 hg w11 hbox hb
    have BK249 := Aside0.mk (hbox)
    have GW249 := Aside0.mk ((g18_ : w.heap.size ≤ gb249))
    have GE249 := Aside0.mk ((g18_ : w.heap.size ≤ gb249))
    replace HB := Aside0.mk (below_step (impl_lowest.calls_q0) hb)
    have NB247_249 := Aside0.mk ((g88_ : gb247 ≠ gb249))
    have NB249_247 := Aside0.mk ((g89_ : gb249 ≠ gb247))
    replace BK247 := Aside0.mk (blk_below (g := gb247) (o := .cells #[.int .i64 0, .int .i64 0] 36 (0, 0)) (uf0_ BK247) hb)
    clear hb hbox hg
    refine hK.out _ _ trivial (fun hHeld => ?_)
    clear hK K
    refine nm_ ?_
    refine one_ (i := 8) (N := none) (tl_ 9 511) rfl rfl (one_of HT_.out (g0_)) (by decide) (fun K hK => ?_)
    have hs12 : w11.cell? ⟨gb249, 0, none⟩ = some (.int .i64 0) := (blk_cell BK249.out 0).trans rfl
    have hfs12 := blk_frozen BK249.out 0
    have hns12_0 := NB247_249.out
    have hms12_0 := NB249_247.out
    have hs13 : w11.cell? ⟨gb249, 1, none⟩ = some (.int .i64 0) := (blk_cell BK249.out 1).trans rfl
    have hfs13 := blk_frozen BK249.out 1
    have hns13_0 := NB247_249.out
    have hms13_0 := NB249_247.out
    refine skip_ (w1 := ?_) (by rfl) rfl ?_ ?_
    rotate_left
    ·go_simp
     rfl
    refine hK.out _ _ trivial (fun hHeld => ?_)
    clear hK K
    refine done_ (done_of HT_.out (g0_)) ?_
    have hnb14 := NB249_247.out
    have hnc14 := NB247_249.out
    obtain ⟨hcz15_0, hcz15_1, hfz15_0, hfz15_1⟩ := blk2_ BK249
    try go_wp2_with (first | ((with_reducible refine gate_callee (f := 77) rfl ?_); refine goesL_ (some 23) rfl rfl Try.func77 k_ rfl #[.agg #[.int .i64 (wrap64 (Int.tdiv a0 (wrap64 (-t248)))), .int .i64 (wrap64 (Int.tdiv a1 (wrap64 (-t248))))]] rfl (g2_) ?_; (with_reducible refine (impl_isFrac.calls k (wrap64 (Int.tdiv a0 (wrap64 (-t248)))) (wrap64 (Int.tdiv a1 (wrap64 (-t248)))) true _ A6.out).mono ?_); rintro e w16 ⟨rfl, hb⟩; refine ⟨_, rfl, ?_⟩; replace BK247 := Aside0.mk (blk_below (g := gb247) (o := .cells #[.int .i64 0, .int .i64 0] 36 (0, 0)) (by (with_reducible repeat (first | refine blk_drewN ?_ _ | refine blk_drew ?_ | refine blk_alloc ?_ _)); refine blk_far ?_ NB247_249.out _; (with_reducible repeat (first | refine blk_drewN ?_ _ | refine blk_drew ?_ | refine blk_alloc ?_ _)); refine blk_far ?_ NB247_249.out _; (with_reducible repeat (first | refine blk_drewN ?_ _ | refine blk_drew ?_ | refine blk_alloc ?_ _)); exact BK247.out) hb); replace BK249 := Aside0.mk (blk_below (g := gb249) (o := .cells #[.int .i64 (wrap64 (Int.tdiv a0 (wrap64 (-t248)))), .int .i64 (wrap64 (Int.tdiv a1 (wrap64 (-t248))))] 36 (0, 0)) (by (with_reducible repeat (first | refine blk_drewN ?_ _ | refine blk_drew ?_ | refine blk_alloc ?_ _)); refine blk_put (cs := #[.int .i64 (wrap64 (Int.tdiv a0 (wrap64 (-t248)))), .int .i64 0]) ?_ 1 _ rfl; (with_reducible repeat (first | refine blk_drewN ?_ _ | refine blk_drew ?_ | refine blk_alloc ?_ _)); refine blk_put (cs := #[.int .i64 0, .int .i64 0]) ?_ 0 _ rfl; (with_reducible repeat (first | refine blk_drewN ?_ _ | refine blk_drew ?_ | refine blk_alloc ?_ _)); exact BK249.out) hb); replace HB := Aside0.mk (below_step (impl_lowest.calls_q0) hb); (try clear hb); (try clear hk hi); obtain ⟨hcz17_0, hcz17_1, hfz17_0, hfz17_1⟩ := blk2_ BK249; obtain ⟨hcz18_0, hcz18_1, hfz18_0, hfz18_1⟩ := blk2_ BK247))
    refine bodyPost_ret (results_ct rfl _ _ gb247 36 #[.int .i64 (wrap64 (Int.tdiv a0 (wrap64 (-t248)))), .int .i64 (wrap64 (Int.tdiv a1 (wrap64 (-t248))))] (0, 0) _ rfl (by (with_reducible repeat (first | refine blk_drewN ?_ _ | refine blk_drew ?_ | refine blk_alloc ?_ _)); refine blk_put (cs := #[.int .i64 (wrap64 (Int.tdiv a0 (wrap64 (-t248)))), .int .i64 0]) ?_ 1 _ rfl; (with_reducible repeat (first | refine blk_drewN ?_ _ | refine blk_drew ?_ | refine blk_alloc ?_ _)); refine blk_put (cs := #[.int .i64 0, .int .i64 0]) ?_ 0 _ rfl; (with_reducible repeat (first | refine blk_drewN ?_ _ | refine blk_drew ?_ | refine blk_alloc ?_ _)); exact BK247.out) Try.underlying36 rfl (g0_)) rfl ?_
    exact ⟨g4_, impl_lowest.calls_q0⟩
   ·replace c7 := Bool.eq_false_iff.mpr c7
    subst c7
    replace H := ifn_ H
    simp only [Option.some.injEq, Prod.mk.injEq] at H
    obtain ⟨rfl, rfl, rfl⟩ := H
    go_enter Try.func92, Try.ntmps92
    try go_wp2_with (first | ((with_reducible refine gate_dst (N := 4) rfl ?_); refine bx_ (N := 4) #[.int .i64 0, .int .i64 0] 36 ?_; intro gb247 hg w19 hbox hb; have BK247 := Aside0.mk (hbox); have GW247 := Aside0.mk ((g18_ : w.heap.size ≤ gb247)); have GE247 := Aside0.mk ((g18_ : w.heap.size ≤ gb247)); replace HB := Aside0.mk (below_step (impl_lowest.calls_q0) hb); clear hb hbox hg) | ((with_reducible refine gate_callee (f := 97) rfl ?_); refine goesL_ (some 10) rfl rfl Try.func97 k_ rfl #[.int .i64 a0, .int .i64 a1] rfl (g2_) ?_; (with_reducible refine (impl_gcd.calls k a0 a1 t248 _ A3.out).mono ?_); rintro e w20 ⟨rfl, hb⟩; refine ⟨_, rfl, ?_⟩; replace BK247 := Aside0.mk (blk_below (g := gb247) (o := .cells #[.int .i64 0, .int .i64 0] 36 (0, 0)) (uf0_ BK247) hb); replace HB := Aside0.mk (below_step (impl_lowest.calls_q0) hb); (try clear hb); (try clear hk hi)))
    replace BK247 := Aside0.mk (blk_drew BK247.out)
    replace HB := Aside0.mk (below_drew1 HB.out)
    refine start_ (n := 9) (S := fun w' => True) (ds := []) (tl_ 9 0) (g0_) rfl (g0_) trivial (fun hHeld => ?_); refine with_tabW impl_lowest.tab4 impl_lowest.bits4 (fun HT_ HW_ => ?_)
    generalize w20.drew = w21 at BK247 HB hHeld ⊢
    refine pw_ 0 15 (tl_ 9 1) rfl rfl ?_
    refine pw_ 1 16 (tl_ 9 3) rfl rfl ?_
    refine pw_ 2 17 (tl_ 9 7) rfl rfl ?_
    refine pw_ 3 18 (tl_ 9 15) rfl rfl ?_
    refine pw_ 4 19 (tl_ 9 31) rfl rfl ?_
    refine pw_ 5 20 (tl_ 9 63) rfl rfl ?_
    refine pw_ 6 21 (tl_ 9 127) rfl rfl ?_
    refine one_ (i := 7) (N := some 7) (tl_ 9 255) rfl rfl (one_of HT_.out (g0_)) (by decide) (fun K hK => ?_)
    refine box_step ?hg (N := 7) ?hd (cs := #[.int .i64 0, .int .i64 0]) (t := 36) ?hr ?_; (case hd => rfl); (case hg => rfl); (case hr => first | (go_simp; done) | (go_simp; rfl))
    intro gb249 hg w22 hbox hb
    have BK249 := Aside0.mk (hbox)
    have GW249 := Aside0.mk ((g18_ : w.heap.size ≤ gb249))
    have GE249 := Aside0.mk ((g18_ : w.heap.size ≤ gb249))
    replace HB := Aside0.mk (below_step (impl_lowest.calls_q0) hb)
    have NB247_249 := Aside0.mk ((g88_ : gb247 ≠ gb249))
    have NB249_247 := Aside0.mk ((g89_ : gb249 ≠ gb247))
    replace BK247 := Aside0.mk (blk_below (g := gb247) (o := .cells #[.int .i64 0, .int .i64 0] 36 (0, 0)) (uf0_ BK247) hb)
    clear hb hbox hg
    refine hK.out _ _ trivial (fun hHeld => ?_)
    clear hK K
    refine nm_ ?_
    refine one_ (i := 8) (N := none) (tl_ 9 511) rfl rfl (one_of HT_.out (g0_)) (by decide) (fun K hK => ?_)
    have hs23 : w22.cell? ⟨gb249, 0, none⟩ = some (.int .i64 0) := (blk_cell BK249.out 0).trans rfl
    have hfs23 := blk_frozen BK249.out 0
    have hns23_0 := NB247_249.out
    have hms23_0 := NB249_247.out
    have hs24 : w22.cell? ⟨gb249, 1, none⟩ = some (.int .i64 0) := (blk_cell BK249.out 1).trans rfl
    have hfs24 := blk_frozen BK249.out 1
    have hns24_0 := NB247_249.out
    have hms24_0 := NB249_247.out
    refine skip_ (w1 := ?_) (by rfl) rfl ?_ ?_
    rotate_left
    ·go_simp
     rfl
    refine hK.out _ _ trivial (fun hHeld => ?_)
    clear hK K
    refine done_ (done_of HT_.out (g0_)) ?_
    have hnb25 := NB249_247.out
    have hnc25 := NB247_249.out
    obtain ⟨hcz26_0, hcz26_1, hfz26_0, hfz26_1⟩ := blk2_ BK249
    try go_wp2_with (first | ((with_reducible refine gate_callee (f := 77) rfl ?_); refine goesL_ (some 23) rfl rfl Try.func77 k_ rfl #[.agg #[.int .i64 (wrap64 (Int.tdiv a0 (wrap64 (-t248)))), .int .i64 (wrap64 (Int.tdiv a1 (wrap64 (-t248))))]] rfl (g2_) ?_; (with_reducible refine (impl_isFrac.calls k (wrap64 (Int.tdiv a0 (wrap64 (-t248)))) (wrap64 (Int.tdiv a1 (wrap64 (-t248)))) false _ A6.out).mono ?_); rintro e w27 ⟨rfl, hb⟩; refine ⟨_, rfl, ?_⟩; replace BK247 := Aside0.mk (blk_below (g := gb247) (o := .cells #[.int .i64 0, .int .i64 0] 36 (0, 0)) (by (with_reducible repeat (first | refine blk_drewN ?_ _ | refine blk_drew ?_ | refine blk_alloc ?_ _)); refine blk_far ?_ NB247_249.out _; (with_reducible repeat (first | refine blk_drewN ?_ _ | refine blk_drew ?_ | refine blk_alloc ?_ _)); refine blk_far ?_ NB247_249.out _; (with_reducible repeat (first | refine blk_drewN ?_ _ | refine blk_drew ?_ | refine blk_alloc ?_ _)); exact BK247.out) hb); replace BK249 := Aside0.mk (blk_below (g := gb249) (o := .cells #[.int .i64 (wrap64 (Int.tdiv a0 (wrap64 (-t248)))), .int .i64 (wrap64 (Int.tdiv a1 (wrap64 (-t248))))] 36 (0, 0)) (by (with_reducible repeat (first | refine blk_drewN ?_ _ | refine blk_drew ?_ | refine blk_alloc ?_ _)); refine blk_put (cs := #[.int .i64 (wrap64 (Int.tdiv a0 (wrap64 (-t248)))), .int .i64 0]) ?_ 1 _ rfl; (with_reducible repeat (first | refine blk_drewN ?_ _ | refine blk_drew ?_ | refine blk_alloc ?_ _)); refine blk_put (cs := #[.int .i64 0, .int .i64 0]) ?_ 0 _ rfl; (with_reducible repeat (first | refine blk_drewN ?_ _ | refine blk_drew ?_ | refine blk_alloc ?_ _)); exact BK249.out) hb); replace HB := Aside0.mk (below_step (impl_lowest.calls_q0) hb); (try clear hb); (try clear hk hi); obtain ⟨hcz28_0, hcz28_1, hfz28_0, hfz28_1⟩ := blk2_ BK247))
    refine bodyPost_ret (results_ct rfl _ _ gb247 36 #[.int .i64 0, .int .i64 0] (0, 0) _ rfl (by (with_reducible repeat (first | refine blk_drewN ?_ _ | refine blk_drew ?_ | refine blk_alloc ?_ _)); refine blk_put (cs := #[.int .i64 0, .int .i64 0]) ?_ 1 _ rfl; (with_reducible repeat (first | refine blk_drewN ?_ _ | refine blk_drew ?_ | refine blk_alloc ?_ _)); refine blk_put (cs := #[.int .i64 0, .int .i64 0]) ?_ 0 _ rfl; (with_reducible repeat (first | refine blk_drewN ?_ _ | refine blk_drew ?_ | refine blk_alloc ?_ _)); exact BK247.out) Try.underlying36 rfl (g0_)) rfl ?_
    exact ⟨g4_, impl_lowest.calls_q0⟩
 ·rw [if_neg c4] at H
  have c4b0 := decide_eq_false c4
  clear c4
  by_cases c29 : t248 = 0
  ·rw [if_pos c29] at H
   exact absurd H (by simp)
  ·rw [if_neg c29] at H
   have c29b0 : (t248 == 0) = false := beq_eq_false_iff_ne.mpr c29
   have c29b1 : (t248 != 0) = true := bne_iff_ne.mpr c29
   obtain ⟨t252, A30, H⟩ := bind_ H
   by_cases c31 : t252 = true
   ·subst c31
    replace H := ifp_ H
    simp only [Option.some.injEq, Prod.mk.injEq] at H
    obtain ⟨rfl, rfl, rfl⟩ := H
    go_enter Try.func92, Try.ntmps92
    try go_wp2_with (first | ((with_reducible refine gate_dst (N := 4) rfl ?_); refine bx_ (N := 4) #[.int .i64 0, .int .i64 0] 36 ?_; intro gb247 hg w32 hbox hb; have BK247 := Aside0.mk (hbox); have GW247 := Aside0.mk ((g18_ : w.heap.size ≤ gb247)); have GE247 := Aside0.mk ((g18_ : w.heap.size ≤ gb247)); replace HB := Aside0.mk (below_step (impl_lowest.calls_q0) hb); clear hb hbox hg) | ((with_reducible refine gate_callee (f := 97) rfl ?_); refine goesL_ (some 10) rfl rfl Try.func97 k_ rfl #[.int .i64 a0, .int .i64 a1] rfl (g2_) ?_; (with_reducible refine (impl_gcd.calls k a0 a1 t248 _ A3.out).mono ?_); rintro e w33 ⟨rfl, hb⟩; refine ⟨_, rfl, ?_⟩; replace BK247 := Aside0.mk (blk_below (g := gb247) (o := .cells #[.int .i64 0, .int .i64 0] 36 (0, 0)) (uf0_ BK247) hb); replace HB := Aside0.mk (below_step (impl_lowest.calls_q0) hb); (try clear hb); (try clear hk hi)))
    replace BK247 := Aside0.mk (blk_drew BK247.out)
    replace HB := Aside0.mk (below_drew1 HB.out)
    refine start_ (n := 9) (S := fun w' => True) (ds := []) (tl_ 9 0) (g0_) rfl (g0_) trivial (fun hHeld => ?_); refine with_tabW impl_lowest.tab4 impl_lowest.bits4 (fun HT_ HW_ => ?_)
    generalize w33.drew = w34 at BK247 HB hHeld ⊢
    refine pw_ 0 15 (tl_ 9 1) rfl rfl ?_
    refine pw_ 1 16 (tl_ 9 3) rfl rfl ?_
    refine pw_ 2 17 (tl_ 9 7) rfl rfl ?_
    refine pw_ 3 18 (tl_ 9 15) rfl rfl ?_
    refine pw_ 4 19 (tl_ 9 31) rfl rfl ?_
    refine pw_ 5 20 (tl_ 9 63) rfl rfl ?_
    refine pw_ 6 21 (tl_ 9 127) rfl rfl ?_
    refine one_ (i := 7) (N := some 7) (tl_ 9 255) rfl rfl (one_of HT_.out (g0_)) (by decide) (fun K hK => ?_)
    refine box_step ?hg (N := 7) ?hd (cs := #[.int .i64 0, .int .i64 0]) (t := 36) ?hr ?_; (case hd => rfl); (case hg => rfl); (case hr => first | (go_simp; done) | (go_simp; rfl))
    intro gb251 hg w35 hbox hb
    have BK251 := Aside0.mk (hbox)
    have GW251 := Aside0.mk ((g18_ : w.heap.size ≤ gb251))
    have GE251 := Aside0.mk ((g18_ : w.heap.size ≤ gb251))
    replace HB := Aside0.mk (below_step (impl_lowest.calls_q0) hb)
    have NB247_251 := Aside0.mk ((g88_ : gb247 ≠ gb251))
    have NB251_247 := Aside0.mk ((g89_ : gb251 ≠ gb247))
    replace BK247 := Aside0.mk (blk_below (g := gb247) (o := .cells #[.int .i64 0, .int .i64 0] 36 (0, 0)) (uf0_ BK247) hb)
    clear hb hbox hg
    refine hK.out _ _ trivial (fun hHeld => ?_)
    clear hK K
    refine nm_ ?_
    refine one_ (i := 8) (N := none) (tl_ 9 511) rfl rfl (one_of HT_.out (g0_)) (by decide) (fun K hK => ?_)
    have hs36 : w35.cell? ⟨gb251, 0, none⟩ = some (.int .i64 0) := (blk_cell BK251.out 0).trans rfl
    have hfs36 := blk_frozen BK251.out 0
    have hns36_0 := NB247_251.out
    have hms36_0 := NB251_247.out
    have hs37 : w35.cell? ⟨gb251, 1, none⟩ = some (.int .i64 0) := (blk_cell BK251.out 1).trans rfl
    have hfs37 := blk_frozen BK251.out 1
    have hns37_0 := NB247_251.out
    have hms37_0 := NB251_247.out
    refine skip_ (w1 := ?_) (by rfl) rfl ?_ ?_
    rotate_left
    ·go_simp
     rfl
    refine hK.out _ _ trivial (fun hHeld => ?_)
    clear hK K
    refine done_ (done_of HT_.out (g0_)) ?_
    have hnb38 := NB251_247.out
    have hnc38 := NB247_251.out
    obtain ⟨hcz39_0, hcz39_1, hfz39_0, hfz39_1⟩ := blk2_ BK251
    try go_wp2_with (first | ((with_reducible refine gate_callee (f := 77) rfl ?_); refine goesL_ (some 23) rfl rfl Try.func77 k_ rfl #[.agg #[.int .i64 (wrap64 (Int.tdiv a0 t248)), .int .i64 (wrap64 (Int.tdiv a1 t248))]] rfl (g2_) ?_; (with_reducible refine (impl_isFrac.calls k (wrap64 (Int.tdiv a0 t248)) (wrap64 (Int.tdiv a1 t248)) true _ A30.out).mono ?_); rintro e w40 ⟨rfl, hb⟩; refine ⟨_, rfl, ?_⟩; replace BK247 := Aside0.mk (blk_below (g := gb247) (o := .cells #[.int .i64 0, .int .i64 0] 36 (0, 0)) (by (with_reducible repeat (first | refine blk_drewN ?_ _ | refine blk_drew ?_ | refine blk_alloc ?_ _)); refine blk_far ?_ NB247_251.out _; (with_reducible repeat (first | refine blk_drewN ?_ _ | refine blk_drew ?_ | refine blk_alloc ?_ _)); refine blk_far ?_ NB247_251.out _; (with_reducible repeat (first | refine blk_drewN ?_ _ | refine blk_drew ?_ | refine blk_alloc ?_ _)); exact BK247.out) hb); replace BK251 := Aside0.mk (blk_below (g := gb251) (o := .cells #[.int .i64 (wrap64 (Int.tdiv a0 t248)), .int .i64 (wrap64 (Int.tdiv a1 t248))] 36 (0, 0)) (by (with_reducible repeat (first | refine blk_drewN ?_ _ | refine blk_drew ?_ | refine blk_alloc ?_ _)); refine blk_put (cs := #[.int .i64 (wrap64 (Int.tdiv a0 t248)), .int .i64 0]) ?_ 1 _ rfl; (with_reducible repeat (first | refine blk_drewN ?_ _ | refine blk_drew ?_ | refine blk_alloc ?_ _)); refine blk_put (cs := #[.int .i64 0, .int .i64 0]) ?_ 0 _ rfl; (with_reducible repeat (first | refine blk_drewN ?_ _ | refine blk_drew ?_ | refine blk_alloc ?_ _)); exact BK251.out) hb); replace HB := Aside0.mk (below_step (impl_lowest.calls_q0) hb); (try clear hb); (try clear hk hi); obtain ⟨hcz41_0, hcz41_1, hfz41_0, hfz41_1⟩ := blk2_ BK251; obtain ⟨hcz42_0, hcz42_1, hfz42_0, hfz42_1⟩ := blk2_ BK247))
    refine bodyPost_ret (results_ct rfl _ _ gb247 36 #[.int .i64 (wrap64 (Int.tdiv a0 t248)), .int .i64 (wrap64 (Int.tdiv a1 t248))] (0, 0) _ rfl (by (with_reducible repeat (first | refine blk_drewN ?_ _ | refine blk_drew ?_ | refine blk_alloc ?_ _)); refine blk_put (cs := #[.int .i64 (wrap64 (Int.tdiv a0 t248)), .int .i64 0]) ?_ 1 _ rfl; (with_reducible repeat (first | refine blk_drewN ?_ _ | refine blk_drew ?_ | refine blk_alloc ?_ _)); refine blk_put (cs := #[.int .i64 0, .int .i64 0]) ?_ 0 _ rfl; (with_reducible repeat (first | refine blk_drewN ?_ _ | refine blk_drew ?_ | refine blk_alloc ?_ _)); exact BK247.out) Try.underlying36 rfl (g0_)) rfl ?_
    exact ⟨g4_, impl_lowest.calls_q0⟩
   ·replace c31 := Bool.eq_false_iff.mpr c31
    subst c31
    replace H := ifn_ H
    simp only [Option.some.injEq, Prod.mk.injEq] at H
    obtain ⟨rfl, rfl, rfl⟩ := H
    go_enter Try.func92, Try.ntmps92
    try go_wp2_with (first | ((with_reducible refine gate_dst (N := 4) rfl ?_); refine bx_ (N := 4) #[.int .i64 0, .int .i64 0] 36 ?_; intro gb247 hg w43 hbox hb; have BK247 := Aside0.mk (hbox); have GW247 := Aside0.mk ((g18_ : w.heap.size ≤ gb247)); have GE247 := Aside0.mk ((g18_ : w.heap.size ≤ gb247)); replace HB := Aside0.mk (below_step (impl_lowest.calls_q0) hb); clear hb hbox hg) | ((with_reducible refine gate_callee (f := 97) rfl ?_); refine goesL_ (some 10) rfl rfl Try.func97 k_ rfl #[.int .i64 a0, .int .i64 a1] rfl (g2_) ?_; (with_reducible refine (impl_gcd.calls k a0 a1 t248 _ A3.out).mono ?_); rintro e w44 ⟨rfl, hb⟩; refine ⟨_, rfl, ?_⟩; replace BK247 := Aside0.mk (blk_below (g := gb247) (o := .cells #[.int .i64 0, .int .i64 0] 36 (0, 0)) (uf0_ BK247) hb); replace HB := Aside0.mk (below_step (impl_lowest.calls_q0) hb); (try clear hb); (try clear hk hi)))
    replace BK247 := Aside0.mk (blk_drew BK247.out)
    replace HB := Aside0.mk (below_drew1 HB.out)
    refine start_ (n := 9) (S := fun w' => True) (ds := []) (tl_ 9 0) (g0_) rfl (g0_) trivial (fun hHeld => ?_); refine with_tabW impl_lowest.tab4 impl_lowest.bits4 (fun HT_ HW_ => ?_)
    generalize w44.drew = w45 at BK247 HB hHeld ⊢
    refine pw_ 0 15 (tl_ 9 1) rfl rfl ?_
    refine pw_ 1 16 (tl_ 9 3) rfl rfl ?_
    refine pw_ 2 17 (tl_ 9 7) rfl rfl ?_
    refine pw_ 3 18 (tl_ 9 15) rfl rfl ?_
    refine pw_ 4 19 (tl_ 9 31) rfl rfl ?_
    refine pw_ 5 20 (tl_ 9 63) rfl rfl ?_
    refine pw_ 6 21 (tl_ 9 127) rfl rfl ?_
    refine one_ (i := 7) (N := some 7) (tl_ 9 255) rfl rfl (one_of HT_.out (g0_)) (by decide) (fun K hK => ?_)
    refine box_step ?hg (N := 7) ?hd (cs := #[.int .i64 0, .int .i64 0]) (t := 36) ?hr ?_; (case hd => rfl); (case hg => rfl); (case hr => first | (go_simp; done) | (go_simp; rfl))
    intro gb251 hg w46 hbox hb
    have BK251 := Aside0.mk (hbox)
    have GW251 := Aside0.mk ((g18_ : w.heap.size ≤ gb251))
    have GE251 := Aside0.mk ((g18_ : w.heap.size ≤ gb251))
    replace HB := Aside0.mk (below_step (impl_lowest.calls_q0) hb)
    have NB247_251 := Aside0.mk ((g88_ : gb247 ≠ gb251))
    have NB251_247 := Aside0.mk ((g89_ : gb251 ≠ gb247))
    replace BK247 := Aside0.mk (blk_below (g := gb247) (o := .cells #[.int .i64 0, .int .i64 0] 36 (0, 0)) (uf0_ BK247) hb)
    clear hb hbox hg
    refine hK.out _ _ trivial (fun hHeld => ?_)
    clear hK K
    refine nm_ ?_
    refine one_ (i := 8) (N := none) (tl_ 9 511) rfl rfl (one_of HT_.out (g0_)) (by decide) (fun K hK => ?_)
    have hs47 : w46.cell? ⟨gb251, 0, none⟩ = some (.int .i64 0) := (blk_cell BK251.out 0).trans rfl
    have hfs47 := blk_frozen BK251.out 0
    have hns47_0 := NB247_251.out
    have hms47_0 := NB251_247.out
    have hs48 : w46.cell? ⟨gb251, 1, none⟩ = some (.int .i64 0) := (blk_cell BK251.out 1).trans rfl
    have hfs48 := blk_frozen BK251.out 1
    have hns48_0 := NB247_251.out
    have hms48_0 := NB251_247.out
    refine skip_ (w1 := ?_) (by rfl) rfl ?_ ?_
    rotate_left
    ·go_simp
     rfl
    refine hK.out _ _ trivial (fun hHeld => ?_)
    clear hK K
    refine done_ (done_of HT_.out (g0_)) ?_
    have hnb49 := NB251_247.out
    have hnc49 := NB247_251.out
    obtain ⟨hcz50_0, hcz50_1, hfz50_0, hfz50_1⟩ := blk2_ BK251
    try go_wp2_with (first | ((with_reducible refine gate_callee (f := 77) rfl ?_); refine goesL_ (some 23) rfl rfl Try.func77 k_ rfl #[.agg #[.int .i64 (wrap64 (Int.tdiv a0 t248)), .int .i64 (wrap64 (Int.tdiv a1 t248))]] rfl (g2_) ?_; (with_reducible refine (impl_isFrac.calls k (wrap64 (Int.tdiv a0 t248)) (wrap64 (Int.tdiv a1 t248)) false _ A30.out).mono ?_); rintro e w51 ⟨rfl, hb⟩; refine ⟨_, rfl, ?_⟩; replace BK247 := Aside0.mk (blk_below (g := gb247) (o := .cells #[.int .i64 0, .int .i64 0] 36 (0, 0)) (by (with_reducible repeat (first | refine blk_drewN ?_ _ | refine blk_drew ?_ | refine blk_alloc ?_ _)); refine blk_far ?_ NB247_251.out _; (with_reducible repeat (first | refine blk_drewN ?_ _ | refine blk_drew ?_ | refine blk_alloc ?_ _)); refine blk_far ?_ NB247_251.out _; (with_reducible repeat (first | refine blk_drewN ?_ _ | refine blk_drew ?_ | refine blk_alloc ?_ _)); exact BK247.out) hb); replace BK251 := Aside0.mk (blk_below (g := gb251) (o := .cells #[.int .i64 (wrap64 (Int.tdiv a0 t248)), .int .i64 (wrap64 (Int.tdiv a1 t248))] 36 (0, 0)) (by (with_reducible repeat (first | refine blk_drewN ?_ _ | refine blk_drew ?_ | refine blk_alloc ?_ _)); refine blk_put (cs := #[.int .i64 (wrap64 (Int.tdiv a0 t248)), .int .i64 0]) ?_ 1 _ rfl; (with_reducible repeat (first | refine blk_drewN ?_ _ | refine blk_drew ?_ | refine blk_alloc ?_ _)); refine blk_put (cs := #[.int .i64 0, .int .i64 0]) ?_ 0 _ rfl; (with_reducible repeat (first | refine blk_drewN ?_ _ | refine blk_drew ?_ | refine blk_alloc ?_ _)); exact BK251.out) hb); replace HB := Aside0.mk (below_step (impl_lowest.calls_q0) hb); (try clear hb); (try clear hk hi); obtain ⟨hcz52_0, hcz52_1, hfz52_0, hfz52_1⟩ := blk2_ BK247))
    refine bodyPost_ret (results_ct rfl _ _ gb247 36 #[.int .i64 0, .int .i64 0] (0, 0) _ rfl (by (with_reducible repeat (first | refine blk_drewN ?_ _ | refine blk_drew ?_ | refine blk_alloc ?_ _)); refine blk_put (cs := #[.int .i64 0, .int .i64 0]) ?_ 1 _ rfl; (with_reducible repeat (first | refine blk_drewN ?_ _ | refine blk_drew ?_ | refine blk_alloc ?_ _)); refine blk_put (cs := #[.int .i64 0, .int .i64 0]) ?_ 0 _ rfl; (with_reducible repeat (first | refine blk_drewN ?_ _ | refine blk_drew ?_ | refine blk_alloc ?_ _)); exact BK247.out) Try.underlying36 rfl (g0_)) rfl ?_
    exact ⟨g4_, impl_lowest.calls_q0⟩
end Go.Proofs.Ytigpmfoagkhaeaa.PU

namespace Go.Proofs.Ytigpmfoagkhaeaa.PU
open Go.RowKit Go.Proofs.YtigpmfoagkhaeaaW.PrintWords Go.Proofs.YtigpmfoagkhaeaaW.PrintLast Go.Proofs.YtigpmfoagkhaeaaW.PrintMore Go.Proofs.Ytigpmfoagkhaeaa.Qd
attribute [local go_sem] max2_int min2_int max_two min_two max_three min_three max_four min_four   -- for this text's walks alone
set_option linter.unusedVariables false
set_option linter.unusedSimpArgs false
def impl_plus.f (k : Nat) (a0_0 : Int) (a0_1 : Int) (a1_0 : Int) (a1_1 : Int) : Option (Int × Int × Bool) := (impl_lowest.f k (wrap64 ((wrap64 (a0_0 * a1_1)) + (wrap64 (a1_0 * a0_1)))) (wrap64 (a0_1 * a1_1))).bind fun bt256 => (some (bt256.1, bt256.2.1, bt256.2.2))
theorem impl_plus.mono : ∀ a0 a1 a2 a3 k, LeO (impl_plus.f k a0 a1 a2 a3) (impl_plus.f (k + 1) a0 a1 a2 a3) := by
 intro a0 a1 a2 a3 k
 unfold impl_plus.f
 repeat' first
   | (with_reducible exact impl_lowest.mono _ _ _)
   | (with_reducible exact LeO.refl _)
   | (with_reducible exact LeO.none _)
   | (with_reducible refine LeO.ite ?_ ?_)
   | (with_reducible refine LeO.bind ?_ (fun _ => ?_))
   | exact impl_lowest.mono _ _ _
   | exact LeO.none _
   | refine LeO.ite ?_ ?_
   | refine LeO.bind ?_ (fun _ => ?_)
theorem impl_plus.calls_q0 {p : Prop} (h : p := by repeat (first | (with_reducible first | exact HB.out | apply below_alloc | apply pw_below_drewN | apply below_drew1 | refine below_set ?_ GE253.out | refine below_set ?_ GE254.out | refine below_set ?_ GE255.out) | exact HB.out)) : p := h
set_option maxHeartbeats 8000000 in
set_option maxRecDepth 100000 in
theorem impl_plus.calls (k : Nat) (a0_0 : Int) (a0_1 : Int) (a1_0 : Int) (a1_1 : Int) (r1 : Int) (r2 : Int) (r3 : Bool) (w : World) (h : impl_plus.f k a0_0 a0_1 a1_0 a1_1 = some (r1, r2, r3)) :
  Calls Try.prog 81 #[.agg #[.int .i64 a0_0, .int .i64 a0_1], .agg #[.int .i64 a1_0, .int .i64 a1_1]] w fun e w' => e = .returned (.tuple #[.agg #[.int .i64 r1, .int .i64 r2], .bool r3]) ∧ Below w.heap.size w w' := by
 have hu36 := Try.underlying36
 have HB := Aside0.mk (Below.refl w.heap.size w)
 have H : ((impl_lowest.f k (wrap64 ((wrap64 (a0_0 * a1_1)) + (wrap64 (a1_0 * a0_1)))) (wrap64 (a0_1 * a1_1))).bind fun bt256 => (some (bt256.1, bt256.2.1, bt256.2.2))) = some (r1, r2, r3) := h
 clear h
 replace H := Option.bind_eq_some_iff.mp H
 obtain ⟨⟨t256, t257, t258⟩, A30, H⟩ := H
 replace H : (some (t256, t257, t258)) = some (r1, r2, r3) := H
 have A3 := Aside0.mk A30
 clear A30
 simp only [Option.some.injEq, Prod.mk.injEq] at H
 obtain ⟨rfl, rfl, rfl⟩ := H
 go_enter Try.func81, Try.ntmps81
 go_wp2_with (first | ((with_reducible refine gate_dst (N := 2) rfl ?_); refine bx_ (N := 2) #[.int .i64 a0_0, .int .i64 a0_1] 36 ?_; intro gb253 hg w4 hbox hb; have BK253 := Aside0.mk (hbox); have GW253 := Aside0.mk ((g50_ : w.heap.size ≤ gb253)); have GE253 := Aside0.mk ((g50_ : w.heap.size ≤ gb253)); replace HB := Aside0.mk (below_step (impl_plus.calls_q0) hb); clear hb hbox hg) | ((with_reducible refine gate_dst (N := 3) rfl ?_); refine bx_ (N := 3) #[.int .i64 a1_0, .int .i64 a1_1] 36 ?_; intro gb254 hg w5 hbox hb; have BK254 := Aside0.mk (hbox); have GW254 := Aside0.mk ((g50_ : w.heap.size ≤ gb254)); have GE254 := Aside0.mk ((g50_ : w.heap.size ≤ gb254)); replace HB := Aside0.mk (below_step (impl_plus.calls_q0) hb); have NB253_254 := Aside0.mk ((by rw [hg]; exact Nat.ne_of_lt (blk_lt (g := gb253) (o := .cells #[.int .i64 a0_0, .int .i64 a0_1] 36 (0, 0)) (uf0_ BK253)) : gb253 ≠ gb254)); have NB254_253 := Aside0.mk ((by rw [hg]; exact Nat.ne_of_gt (blk_lt (g := gb253) (o := .cells #[.int .i64 a0_0, .int .i64 a0_1] 36 (0, 0)) (uf0_ BK253)) : gb254 ≠ gb253)); replace BK253 := Aside0.mk (blk_below (g := gb253) (o := .cells #[.int .i64 a0_0, .int .i64 a0_1] 36 (0, 0)) (uf0_ BK253) hb); clear hb hbox hg) | ((with_reducible refine gate_dst (N := 4) rfl ?_); refine bx_ (N := 4) #[.int .i64 0, .int .i64 0] 36 ?_; intro gb255 hg w6 hbox hb; have BK255 := Aside0.mk (hbox); have GW255 := Aside0.mk ((g50_ : w.heap.size ≤ gb255)); have GE255 := Aside0.mk ((g50_ : w.heap.size ≤ gb255)); replace HB := Aside0.mk (below_step (impl_plus.calls_q0) hb); have NB253_255 := Aside0.mk ((by rw [hg]; exact Nat.ne_of_lt (blk_lt (g := gb253) (o := .cells #[.int .i64 a0_0, .int .i64 a0_1] 36 (0, 0)) (uf0_ BK253)) : gb253 ≠ gb255)); have NB255_253 := Aside0.mk ((by rw [hg]; exact Nat.ne_of_gt (blk_lt (g := gb253) (o := .cells #[.int .i64 a0_0, .int .i64 a0_1] 36 (0, 0)) (uf0_ BK253)) : gb255 ≠ gb253)); replace BK253 := Aside0.mk (blk_below (g := gb253) (o := .cells #[.int .i64 a0_0, .int .i64 a0_1] 36 (0, 0)) (uf0_ BK253) hb); have NB254_255 := Aside0.mk ((by rw [hg]; exact Nat.ne_of_lt (blk_lt (g := gb254) (o := .cells #[.int .i64 a1_0, .int .i64 a1_1] 36 (0, 0)) (uf0_ BK254)) : gb254 ≠ gb255)); have NB255_254 := Aside0.mk ((by rw [hg]; exact Nat.ne_of_gt (blk_lt (g := gb254) (o := .cells #[.int .i64 a1_0, .int .i64 a1_1] 36 (0, 0)) (uf0_ BK254)) : gb255 ≠ gb254)); replace BK254 := Aside0.mk (blk_below (g := gb254) (o := .cells #[.int .i64 a1_0, .int .i64 a1_1] 36 (0, 0)) (uf0_ BK254) hb); clear hb hbox hg; have hnb7 := NB253_254.out; have hnc7 := NB254_253.out; have hnb8 := NB253_255.out; have hnc8 := NB255_253.out; obtain ⟨hcz9_0, hcz9_1, hfz9_0, hfz9_1⟩ := blk2_ BK253; have hnb10 := NB254_255.out; have hnc10 := NB255_254.out; obtain ⟨hcz11_0, hcz11_1, hfz11_0, hfz11_1⟩ := blk2_ BK254) | ((with_reducible refine gate_callee (f := 92) rfl ?_); refine goesL_ (some 22) rfl rfl Try.func92 k_ rfl #[.int .i64 (wrap64 ((wrap64 (a0_0 * a1_1)) + (wrap64 (a1_0 * a0_1)))), .int .i64 (wrap64 (a0_1 * a1_1))] rfl (g2_) ?_; (with_reducible refine (impl_lowest.calls k (wrap64 ((wrap64 (a0_0 * a1_1)) + (wrap64 (a1_0 * a0_1)))) (wrap64 (a0_1 * a1_1)) t256 t257 t258 _ A3.out).mono ?_); rintro e w12 ⟨rfl, hb⟩; refine ⟨_, rfl, ?_⟩; replace BK253 := Aside0.mk (blk_below (g := gb253) (o := .cells #[.int .i64 a0_0, .int .i64 a0_1] 36 (0, 0)) (uf0_ BK253) hb); replace BK254 := Aside0.mk (blk_below (g := gb254) (o := .cells #[.int .i64 a1_0, .int .i64 a1_1] 36 (0, 0)) (uf0_ BK254) hb); replace BK255 := Aside0.mk (blk_below (g := gb255) (o := .cells #[.int .i64 0, .int .i64 0] 36 (0, 0)) (uf0_ BK255) hb); replace HB := Aside0.mk (below_step (impl_plus.calls_q0) hb); (try clear hb); (try clear hk hi); obtain ⟨hcz13_0, hcz13_1, hfz13_0, hfz13_1⟩ := blk2_ BK255))
 refine bodyPost_ret (results_ct rfl _ _ gb255 36 #[.int .i64 t256, .int .i64 t257] (0, 0) _ rfl (by (with_reducible repeat (first | refine blk_drewN ?_ _ | refine blk_drew ?_ | refine blk_alloc ?_ _)); refine blk_put (cs := #[.int .i64 t256, .int .i64 0]) ?_ 1 _ rfl; (with_reducible repeat (first | refine blk_drewN ?_ _ | refine blk_drew ?_ | refine blk_alloc ?_ _)); refine blk_put (cs := #[.int .i64 0, .int .i64 0]) ?_ 0 _ rfl; (with_reducible repeat (first | refine blk_drewN ?_ _ | refine blk_drew ?_ | refine blk_alloc ?_ _)); exact BK255.out) Try.underlying36 rfl (g0_)) rfl ?_
 exact ⟨g4_, impl_plus.calls_q0⟩
end Go.Proofs.Ytigpmfoagkhaeaa.PU

namespace Go.Proofs.Ytigpmfoagkhaeaa.PU
open Go.RowKit Go.Proofs.YtigpmfoagkhaeaaW.PrintWords Go.Proofs.YtigpmfoagkhaeaaW.PrintLast Go.Proofs.YtigpmfoagkhaeaaW.PrintMore Go.Proofs.Ytigpmfoagkhaeaa.Qd
attribute [local go_sem] max2_int min2_int max_two min_two max_three min_three max_four min_four   -- for this text's walks alone
set_option linter.unusedVariables false
set_option linter.unusedSimpArgs false
def impl_times.f (k : Nat) (a0_0 : Int) (a0_1 : Int) (a1_0 : Int) (a1_1 : Int) : Option (Int × Int × Bool) := (impl_lowest.f k (wrap64 (a0_0 * a1_0)) (wrap64 (a0_1 * a1_1))).bind fun bt262 => (some (bt262.1, bt262.2.1, bt262.2.2))
theorem impl_times.mono : ∀ a0 a1 a2 a3 k, LeO (impl_times.f k a0 a1 a2 a3) (impl_times.f (k + 1) a0 a1 a2 a3) := by
 intro a0 a1 a2 a3 k
 unfold impl_times.f
 repeat' first
   | (with_reducible exact impl_lowest.mono _ _ _)
   | (with_reducible exact LeO.refl _)
   | (with_reducible exact LeO.none _)
   | (with_reducible refine LeO.ite ?_ ?_)
   | (with_reducible refine LeO.bind ?_ (fun _ => ?_))
   | exact impl_lowest.mono _ _ _
   | exact LeO.none _
   | refine LeO.ite ?_ ?_
   | refine LeO.bind ?_ (fun _ => ?_)
theorem impl_times.calls_q0 {p : Prop} (h : p := by repeat (first | (with_reducible first | exact HB.out | apply below_alloc | apply pw_below_drewN | apply below_drew1 | refine below_set ?_ GE259.out | refine below_set ?_ GE260.out | refine below_set ?_ GE261.out) | exact HB.out)) : p := h
set_option maxHeartbeats 8000000 in
set_option maxRecDepth 100000 in
theorem impl_times.calls (k : Nat) (a0_0 : Int) (a0_1 : Int) (a1_0 : Int) (a1_1 : Int) (r1 : Int) (r2 : Int) (r3 : Bool) (w : World) (h : impl_times.f k a0_0 a0_1 a1_0 a1_1 = some (r1, r2, r3)) :
  Calls Try.prog 93 #[.agg #[.int .i64 a0_0, .int .i64 a0_1], .agg #[.int .i64 a1_0, .int .i64 a1_1]] w fun e w' => e = .returned (.tuple #[.agg #[.int .i64 r1, .int .i64 r2], .bool r3]) ∧ Below w.heap.size w w' := by
 have hu36 := Try.underlying36
 have HB := Aside0.mk (Below.refl w.heap.size w)
 have H : ((impl_lowest.f k (wrap64 (a0_0 * a1_0)) (wrap64 (a0_1 * a1_1))).bind fun bt262 => (some (bt262.1, bt262.2.1, bt262.2.2))) = some (r1, r2, r3) := h
 clear h
 replace H := Option.bind_eq_some_iff.mp H
 obtain ⟨⟨t262, t263, t264⟩, A30, H⟩ := H
 replace H : (some (t262, t263, t264)) = some (r1, r2, r3) := H
 have A3 := Aside0.mk A30
 clear A30
 simp only [Option.some.injEq, Prod.mk.injEq] at H
 obtain ⟨rfl, rfl, rfl⟩ := H
 go_enter Try.func93, Try.ntmps93
 go_wp2_with (first | ((with_reducible refine gate_dst (N := 2) rfl ?_); refine bx_ (N := 2) #[.int .i64 a0_0, .int .i64 a0_1] 36 ?_; intro gb259 hg w4 hbox hb; have BK259 := Aside0.mk (hbox); have GW259 := Aside0.mk ((g51_ : w.heap.size ≤ gb259)); have GE259 := Aside0.mk ((g51_ : w.heap.size ≤ gb259)); replace HB := Aside0.mk (below_step (impl_times.calls_q0) hb); clear hb hbox hg) | ((with_reducible refine gate_dst (N := 3) rfl ?_); refine bx_ (N := 3) #[.int .i64 a1_0, .int .i64 a1_1] 36 ?_; intro gb260 hg w5 hbox hb; have BK260 := Aside0.mk (hbox); have GW260 := Aside0.mk ((g51_ : w.heap.size ≤ gb260)); have GE260 := Aside0.mk ((g51_ : w.heap.size ≤ gb260)); replace HB := Aside0.mk (below_step (impl_times.calls_q0) hb); have NB259_260 := Aside0.mk ((by rw [hg]; exact Nat.ne_of_lt (blk_lt (g := gb259) (o := .cells #[.int .i64 a0_0, .int .i64 a0_1] 36 (0, 0)) (uf0_ BK259)) : gb259 ≠ gb260)); have NB260_259 := Aside0.mk ((by rw [hg]; exact Nat.ne_of_gt (blk_lt (g := gb259) (o := .cells #[.int .i64 a0_0, .int .i64 a0_1] 36 (0, 0)) (uf0_ BK259)) : gb260 ≠ gb259)); replace BK259 := Aside0.mk (blk_below (g := gb259) (o := .cells #[.int .i64 a0_0, .int .i64 a0_1] 36 (0, 0)) (uf0_ BK259) hb); clear hb hbox hg) | ((with_reducible refine gate_dst (N := 4) rfl ?_); refine bx_ (N := 4) #[.int .i64 0, .int .i64 0] 36 ?_; intro gb261 hg w6 hbox hb; have BK261 := Aside0.mk (hbox); have GW261 := Aside0.mk ((g51_ : w.heap.size ≤ gb261)); have GE261 := Aside0.mk ((g51_ : w.heap.size ≤ gb261)); replace HB := Aside0.mk (below_step (impl_times.calls_q0) hb); have NB259_261 := Aside0.mk ((by rw [hg]; exact Nat.ne_of_lt (blk_lt (g := gb259) (o := .cells #[.int .i64 a0_0, .int .i64 a0_1] 36 (0, 0)) (uf0_ BK259)) : gb259 ≠ gb261)); have NB261_259 := Aside0.mk ((by rw [hg]; exact Nat.ne_of_gt (blk_lt (g := gb259) (o := .cells #[.int .i64 a0_0, .int .i64 a0_1] 36 (0, 0)) (uf0_ BK259)) : gb261 ≠ gb259)); replace BK259 := Aside0.mk (blk_below (g := gb259) (o := .cells #[.int .i64 a0_0, .int .i64 a0_1] 36 (0, 0)) (uf0_ BK259) hb); have NB260_261 := Aside0.mk ((by rw [hg]; exact Nat.ne_of_lt (blk_lt (g := gb260) (o := .cells #[.int .i64 a1_0, .int .i64 a1_1] 36 (0, 0)) (uf0_ BK260)) : gb260 ≠ gb261)); have NB261_260 := Aside0.mk ((by rw [hg]; exact Nat.ne_of_gt (blk_lt (g := gb260) (o := .cells #[.int .i64 a1_0, .int .i64 a1_1] 36 (0, 0)) (uf0_ BK260)) : gb261 ≠ gb260)); replace BK260 := Aside0.mk (blk_below (g := gb260) (o := .cells #[.int .i64 a1_0, .int .i64 a1_1] 36 (0, 0)) (uf0_ BK260) hb); clear hb hbox hg; have hnb7 := NB259_260.out; have hnc7 := NB260_259.out; have hnb8 := NB259_261.out; have hnc8 := NB261_259.out; obtain ⟨hcz9_0, hcz9_1, hfz9_0, hfz9_1⟩ := blk2_ BK259; have hnb10 := NB260_261.out; have hnc10 := NB261_260.out; obtain ⟨hcz11_0, hcz11_1, hfz11_0, hfz11_1⟩ := blk2_ BK260) | ((with_reducible refine gate_callee (f := 92) rfl ?_); refine goesL_ (some 16) rfl rfl Try.func92 k_ rfl #[.int .i64 (wrap64 (a0_0 * a1_0)), .int .i64 (wrap64 (a0_1 * a1_1))] rfl (g2_) ?_; (with_reducible refine (impl_lowest.calls k (wrap64 (a0_0 * a1_0)) (wrap64 (a0_1 * a1_1)) t262 t263 t264 _ A3.out).mono ?_); rintro e w12 ⟨rfl, hb⟩; refine ⟨_, rfl, ?_⟩; replace BK259 := Aside0.mk (blk_below (g := gb259) (o := .cells #[.int .i64 a0_0, .int .i64 a0_1] 36 (0, 0)) (uf0_ BK259) hb); replace BK260 := Aside0.mk (blk_below (g := gb260) (o := .cells #[.int .i64 a1_0, .int .i64 a1_1] 36 (0, 0)) (uf0_ BK260) hb); replace BK261 := Aside0.mk (blk_below (g := gb261) (o := .cells #[.int .i64 0, .int .i64 0] 36 (0, 0)) (uf0_ BK261) hb); replace HB := Aside0.mk (below_step (impl_times.calls_q0) hb); (try clear hb); (try clear hk hi); obtain ⟨hcz13_0, hcz13_1, hfz13_0, hfz13_1⟩ := blk2_ BK261))
 refine bodyPost_ret (results_ct rfl _ _ gb261 36 #[.int .i64 t262, .int .i64 t263] (0, 0) _ rfl (by (with_reducible repeat (first | refine blk_drewN ?_ _ | refine blk_drew ?_ | refine blk_alloc ?_ _)); refine blk_put (cs := #[.int .i64 t262, .int .i64 0]) ?_ 1 _ rfl; (with_reducible repeat (first | refine blk_drewN ?_ _ | refine blk_drew ?_ | refine blk_alloc ?_ _)); refine blk_put (cs := #[.int .i64 0, .int .i64 0]) ?_ 0 _ rfl; (with_reducible repeat (first | refine blk_drewN ?_ _ | refine blk_drew ?_ | refine blk_alloc ?_ _)); exact BK261.out) Try.underlying36 rfl (g0_)) rfl ?_
 exact ⟨g4_, impl_times.calls_q0⟩
end Go.Proofs.Ytigpmfoagkhaeaa.PU

namespace Go.Proofs.Ytigpmfoagkhaeaa.PU
open Go.RowKit Go.Proofs.YtigpmfoagkhaeaaW.PrintWords Go.Proofs.YtigpmfoagkhaeaaW.PrintLast Go.Proofs.YtigpmfoagkhaeaaW.PrintMore Go.Proofs.Ytigpmfoagkhaeaa.Qd
attribute [local go_sem] max2_int min2_int max_two min_two max_three min_three max_four min_four   -- for this text's walks alone
set_option linter.unusedVariables false
set_option linter.unusedSimpArgs false
mutual
def impl_gets.l0 : Nat → List (S36) → List Int → List (S36) → List Int → Int → Int → List Int → List (List Int) → Option ((List (S36)) × Bool)
 | 0, _, _, _, _, _, _, _, _ => none
 | k + 1, x1, x6, x7, x23, x24, x25, x266000, x266001 => if x25 < x24 then (if 0 ≤ x25 then (if x25 < (x23.length : Int) then ((impl_whole.f (rd x23 x25)).bind fun bt273 => (impl_gets.l1 k x1 x6 x7 x25 x23 x24 x25 x266001 (x266001.length : Int) 0 x266000 x266001 bt273.1 bt273.2)) else (none)) else (none)) else (some (x7, true))
def impl_gets.l1 : Nat → List (S36) → List Int → List (S36) → Int → List Int → Int → Int → List (List Int) → Int → Int → List Int → List (List Int) → Int → Int → Option ((List (S36)) × Bool)
 | 0, _, _, _, _, _, _, _, _, _, _, _, _, _, _ => none
 | k + 1, x1, x6, x7, x8, x23, x24, x25, x33, x34, x35, x266000, x266001, x276000, x276001 => if x35 < x34 then (if 0 ≤ x35 then (if x35 < (x33.length : Int) then (if x35 = x8 then (impl_gets.j2 k x1 x6 x7 x8 x35 (rd_L2 x33 x35) x23 x24 x25 x33 x34 x35 true x266000 x266001 x276000 x276001) else (if x35 < (x6.length : Int) then (impl_gets.j2 k x1 x6 x7 x8 x35 (rd_L2 x33 x35) x23 x24 x25 x33 x34 x35 ((rd x6 x35) == 0) x266000 x266001 x276000 x276001) else (none))) else (none)) else (none)) else (if x7.length < 8796093022208 then (impl_gets.l0 k x1 x6 (x7 ++ [(⟨x276000, x276001⟩ : S36)]) x23 x24 (wrap64 (x25 + 1)) x266000 x266001) else (none))
def impl_gets.j2 : Nat → List (S36) → List Int → List (S36) → Int → Int → List Int → List Int → Int → Int → List (List Int) → Int → Int → Bool → List Int → List (List Int) → Int → Int → Option ((List (S36)) × Bool)
 | 0, _, _, _, _, _, _, _, _, _, _, _, _, _, _, _, _, _ => none
 | k + 1, x1, x6, x7, x8, x11, x12, x23, x24, x25, x33, x34, x35, x49, x266000, x266001, x276000, x276001 => if x49 = true then (impl_gets.l1 k x1 x6 x7 x8 x23 x24 x25 x33 x34 (wrap64 (x35 + 1)) x266000 x266001 x276000 x276001) else (if 0 ≤ x8 then (if x8 < (x12.length : Int) then (if 0 ≤ x11 then (if x11 < (x6.length : Int) then ((impl_lowest.f k (rd x12 x8) (rd x6 x11)).bind fun bt283 => (if x11 < (x1.length : Int) then ((impl_times.f k ((rd_T36 x1 x11).f0) ((rd_T36 x1 x11).f1) bt283.1 bt283.2.1).bind fun bt288 => ((impl_plus.f k x276000 x276001 bt288.1 bt288.2.1).bind fun bt292 => (if bt288.2.2 = true then (if bt292.2.2 = true then (impl_gets.l1 k x1 x6 x7 x8 x23 x24 x25 x33 x34 (wrap64 (x35 + 1)) x266000 x266001 bt292.1 bt292.2.1) else (some (([] : List (S36)), false))) else (some (([] : List (S36)), false))))) else (none))) else (none)) else (none)) else (none)) else (none))
end
def impl_gets.f (k : Nat) (l0_0 : List Int) (l0_1 : List (List Int)) (l1 : List (S36)) : Option ((List (S36)) × Bool) := (impl_owes.f k l0_0 l0_1).bind fun t266 => (impl_gets.l0 k l1 t266 (([] : List (S36))) l0_0 (l0_0.length : Int) 0 l0_0 l0_1)
theorem impl_gets.mono_l : ∀ k, (∀ y0 y1 y2 y3 y4 y5 y6 y7, LeO (impl_gets.l0 k y0 y1 y2 y3 y4 y5 y6 y7) (impl_gets.l0 (k + 1) y0 y1 y2 y3 y4 y5 y6 y7)) ∧ (∀ y0 y1 y2 y3 y4 y5 y6 y7 y8 y9 y10 y11 y12 y13, LeO (impl_gets.l1 k y0 y1 y2 y3 y4 y5 y6 y7 y8 y9 y10 y11 y12 y13) (impl_gets.l1 (k + 1) y0 y1 y2 y3 y4 y5 y6 y7 y8 y9 y10 y11 y12 y13)) ∧ (∀ y0 y1 y2 y3 y4 y5 y6 y7 y8 y9 y10 y11 y12 y13 y14 y15 y16, LeO (impl_gets.j2 k y0 y1 y2 y3 y4 y5 y6 y7 y8 y9 y10 y11 y12 y13 y14 y15 y16) (impl_gets.j2 (k + 1) y0 y1 y2 y3 y4 y5 y6 y7 y8 y9 y10 y11 y12 y13 y14 y15 y16))
 | 0 => ⟨fun _ _ _ _ _ _ _ _ r h => by simp [impl_gets.l0] at h, fun _ _ _ _ _ _ _ _ _ _ _ _ _ _ r h => by simp [impl_gets.l1] at h, fun _ _ _ _ _ _ _ _ _ _ _ _ _ _ _ _ _ r h => by simp [impl_gets.j2] at h⟩
 | k + 1 => by
  obtain ⟨ih0, ih1, ih2⟩ := impl_gets.mono_l k
  refine ⟨?_, ?_, ?_⟩
  ·intro y0 y1 y2 y3 y4 y5 y6 y7
   unfold impl_gets.l0
   repeat' first
   | (with_reducible exact ih0 _ _ _ _ _ _ _ _)
   | (with_reducible exact ih1 _ _ _ _ _ _ _ _ _ _ _ _ _ _)
   | (with_reducible exact ih2 _ _ _ _ _ _ _ _ _ _ _ _ _ _ _ _ _)
   | (with_reducible exact impl_lowest.mono _ _ _)
   | (with_reducible exact impl_owes.mono _ _ _)
   | (with_reducible exact impl_plus.mono _ _ _ _ _)
   | (with_reducible exact impl_times.mono _ _ _ _ _)
   | (with_reducible exact LeO.refl _)
   | (with_reducible exact LeO.none _)
   | (with_reducible refine LeO.ite ?_ ?_)
   | (with_reducible refine LeO.bind ?_ (fun _ => ?_))
   | exact ih0 _ _ _ _ _ _ _ _
   | exact ih1 _ _ _ _ _ _ _ _ _ _ _ _ _ _
   | exact ih2 _ _ _ _ _ _ _ _ _ _ _ _ _ _ _ _ _
   | exact impl_lowest.mono _ _ _
   | exact impl_owes.mono _ _ _
   | exact impl_plus.mono _ _ _ _ _
   | exact impl_times.mono _ _ _ _ _
   | exact LeO.none _
   | refine LeO.ite ?_ ?_
   | refine LeO.bind ?_ (fun _ => ?_)
  ·intro y0 y1 y2 y3 y4 y5 y6 y7 y8 y9 y10 y11 y12 y13
   unfold impl_gets.l1
   repeat' first
   | (with_reducible exact ih0 _ _ _ _ _ _ _ _)
   | (with_reducible exact ih1 _ _ _ _ _ _ _ _ _ _ _ _ _ _)
   | (with_reducible exact ih2 _ _ _ _ _ _ _ _ _ _ _ _ _ _ _ _ _)
   | (with_reducible exact impl_lowest.mono _ _ _)
   | (with_reducible exact impl_owes.mono _ _ _)
   | (with_reducible exact impl_plus.mono _ _ _ _ _)
   | (with_reducible exact impl_times.mono _ _ _ _ _)
   | (with_reducible exact LeO.refl _)
   | (with_reducible exact LeO.none _)
   | (with_reducible refine LeO.ite ?_ ?_)
   | (with_reducible refine LeO.bind ?_ (fun _ => ?_))
   | exact ih0 _ _ _ _ _ _ _ _
   | exact ih1 _ _ _ _ _ _ _ _ _ _ _ _ _ _
   | exact ih2 _ _ _ _ _ _ _ _ _ _ _ _ _ _ _ _ _
   | exact impl_lowest.mono _ _ _
   | exact impl_owes.mono _ _ _
   | exact impl_plus.mono _ _ _ _ _
   | exact impl_times.mono _ _ _ _ _
   | exact LeO.none _
   | refine LeO.ite ?_ ?_
   | refine LeO.bind ?_ (fun _ => ?_)
  ·intro y0 y1 y2 y3 y4 y5 y6 y7 y8 y9 y10 y11 y12 y13 y14 y15 y16
   unfold impl_gets.j2
   repeat' first
   | (with_reducible exact ih0 _ _ _ _ _ _ _ _)
   | (with_reducible exact ih1 _ _ _ _ _ _ _ _ _ _ _ _ _ _)
   | (with_reducible exact ih2 _ _ _ _ _ _ _ _ _ _ _ _ _ _ _ _ _)
   | (with_reducible exact impl_lowest.mono _ _ _)
   | (with_reducible exact impl_owes.mono _ _ _)
   | (with_reducible exact impl_plus.mono _ _ _ _ _)
   | (with_reducible exact impl_times.mono _ _ _ _ _)
   | (with_reducible exact LeO.refl _)
   | (with_reducible exact LeO.none _)
   | (with_reducible refine LeO.ite ?_ ?_)
   | (with_reducible refine LeO.bind ?_ (fun _ => ?_))
   | exact ih0 _ _ _ _ _ _ _ _
   | exact ih1 _ _ _ _ _ _ _ _ _ _ _ _ _ _
   | exact ih2 _ _ _ _ _ _ _ _ _ _ _ _ _ _ _ _ _
   | exact impl_lowest.mono _ _ _
   | exact impl_owes.mono _ _ _
   | exact impl_plus.mono _ _ _ _ _
   | exact impl_times.mono _ _ _ _ _
   | exact LeO.none _
   | refine LeO.ite ?_ ?_
   | refine LeO.bind ?_ (fun _ => ?_)
theorem impl_gets.mono : ∀ a0 a1 a2 k, LeO (impl_gets.f k a0 a1 a2) (impl_gets.f (k + 1) a0 a1 a2) := by
 intro a0 a1 a2 k
 obtain ⟨ih0, ih1, ih2⟩ := impl_gets.mono_l k
 unfold impl_gets.f
 repeat' first
   | (with_reducible exact ih0 _ _ _ _ _ _ _ _)
   | (with_reducible exact ih1 _ _ _ _ _ _ _ _ _ _ _ _ _ _)
   | (with_reducible exact ih2 _ _ _ _ _ _ _ _ _ _ _ _ _ _ _ _ _)
   | (with_reducible exact impl_lowest.mono _ _ _)
   | (with_reducible exact impl_owes.mono _ _ _)
   | (with_reducible exact impl_plus.mono _ _ _ _ _)
   | (with_reducible exact impl_times.mono _ _ _ _ _)
   | (with_reducible exact LeO.refl _)
   | (with_reducible exact LeO.none _)
   | (with_reducible refine LeO.ite ?_ ?_)
   | (with_reducible refine LeO.bind ?_ (fun _ => ?_))
   | exact ih0 _ _ _ _ _ _ _ _
   | exact ih1 _ _ _ _ _ _ _ _ _ _ _ _ _ _
   | exact ih2 _ _ _ _ _ _ _ _ _ _ _ _ _ _ _ _ _
   | exact impl_lowest.mono _ _ _
   | exact impl_owes.mono _ _ _
   | exact impl_plus.mono _ _ _ _ _
   | exact impl_times.mono _ _ _ _ _
   | exact LeO.none _
   | refine LeO.ite ?_ ?_
   | refine LeO.bind ?_ (fun _ => ?_)
def impl_gets.T11 : Bool × List (List Nat × List Nat) := (true, [([], []), ([], []), ([0, 1], [0, 1]), ([2], [2]), ([], []), ([], []), ([4, 5], [4, 5]), ([6], [6]), ([3, 7], [3, 7]), ([8], [8]), ([9], [9]), ([9], [9]), ([], []), ([12, 10, 8, 0, 1, 2, 3, 4, 5, 6, 7, 8, 9, 10, 12], [10, 12]), ([11, 13, 0, 1, 2, 3, 4, 5, 6, 7, 8, 9, 10, 11, 12, 13], [11])])
def impl_gets.B11 : List Nat := [0, 0, 3, 7, 0, 0, 48, 112, 255, 511, 1023, 1023, 0, 6143, 16383]
theorem impl_gets.tab11 : rtab .any (opsOf Try.f59 11) = impl_gets.T11 := by kernel_rfl
theorem impl_gets.bits11 : waitsOk impl_gets.T11.2 impl_gets.B11 = true := by kernel_rfl
def impl_gets.T12 : Bool × List (List Nat × List Nat) := (true, [([], []), ([], []), ([0, 1], [0, 1]), ([2], [2]), ([], []), ([3, 4], [3, 4]), ([5], [5]), ([6], [6]), ([6], [6]), ([], []), ([9, 7, 5, 0, 1, 2, 3, 4, 5, 6, 7, 9], [7, 9]), ([8, 10, 0, 1, 2, 3, 4, 5, 6, 7, 8, 9, 10], [8])])
def impl_gets.B12 : List Nat := [0, 0, 3, 7, 0, 31, 63, 127, 127, 0, 767, 2047]
theorem impl_gets.tab12 : rtab .any (opsOf Try.f59 12) = impl_gets.T12 := by kernel_rfl
theorem impl_gets.bits12 : waitsOk impl_gets.T12.2 impl_gets.B12 = true := by kernel_rfl
theorem impl_gets.calls_q0 {p : Prop} (h : p := by repeat (first | (with_reducible first | exact HB.out | apply below_alloc | apply pw_below_drewN | apply below_drew1 | refine below_set ?_ GE265.out | refine below_set ?_ GE275.out | refine below_set ?_ GE286.out | refine below_set ?_ GE291.out | refine below_set ?_ GE295.out) | exact HB.out)) : p := h
set_option maxHeartbeats 8000000 in
set_option maxRecDepth 100000 in
theorem impl_gets.calls (k : Nat) (A0_0 : Option Addr) (c0_0 : Nat) (l0_0 : List Int) (A0_1 : Option Addr) (c0_1 : Nat) (l0_1 : List (List Int)) (A1 : Option Addr) (c1 : Nat) (l1 : List (S36)) (r1 : List (S36)) (r2 : Bool) (w : World) (hr0_0 : Kd.C (Kd.int .i64) w A0_0 l0_0.length l0_0) (hc0_0 : l0_0.length ≤ c0_0) (hr0_1 : Kd.C (Kd.slice 3 (Kd.int .i64)) w A0_1 l0_1.length l0_1) (hc0_1 : l0_1.length ≤ c0_1) (hr1 : Kd.C k36 w A1 l1.length l1) (hc1 : l1.length ≤ c1) (h : impl_gets.f k l0_0 l0_1 l1 = some (r1, r2)) :
  Calls Try.prog 59 #[.agg #[.slice A0_0 l0_0.length c0_0, .slice A0_1 l0_1.length c0_1], .slice A1 l1.length c1] w fun e w' => ∃ v0_ : Value, e = .returned (.tuple #[v0_, .bool r2]) ∧ Kd.R k36 36 w' w.heap.size (fun _ => True) v0_ r1 ∧ Below w.heap.size w w' := by
 have hu26 := Try.underlying26
 have hu36 := Try.underlying36
 have HR0_0 := Aside0.mk hr0_0
 have HC0_0 := Aside0.mk hc0_0
 clear hr0_0 hc0_0
 have HR0_1 := Aside0.mk hr0_1
 have HC0_1 := Aside0.mk hc0_1
 clear hr0_1 hc0_1
 have HR1 := Aside0.mk hr1
 have HC1 := Aside0.mk hc1
 clear hr1 hc1
 have HB := Aside0.mk (Below.refl w.heap.size w)
 have H : ((impl_owes.f k l0_0 l0_1).bind fun t266 => (impl_gets.l0 k l1 t266 (([] : List (S36))) l0_0 (l0_0.length : Int) 0 l0_0 l0_1)) = some (r1, r2) := h
 clear h
 obtain ⟨t266, A3, H⟩ := bind_ H
 obtain ⟨y269, hy269⟩ : ∃ y_ : List (S36), y_ = (([] : List (S36))) := ⟨_, rfl⟩
 replace H : (impl_gets.l0 k l1 t266 y269 l0_0 (l0_0.length : Int) 0 l0_0 l0_1) = some (r1, r2) := by first | (rw [hy269]; with_reducible exact H) | (have H2_ := (Option.bind_some _ _).symm.trans H; rw [hy269]; with_reducible exact H2_) | (have H2_ := (Option.bind_some _ _).symm.trans H; with_reducible exact H2_) | with_reducible exact H | (rw [hy269]; exact H) | exact H
 have Ny269 := Aside0.mk hy269
 clear hy269
 have H' := Aside0.mk H
 clear H
 go_enter Try.func59, Try.ntmps59
 go_wp2_with (first | ((with_reducible refine gate_dst (N := 2) rfl ?_); refine bx_ (N := 2) #[.slice A0_0 l0_0.length c0_0, .slice A0_1 l0_1.length c0_1] 26 ?_; intro gb265 hg w4 hbox hb; have BK265 := Aside0.mk (hbox); have GW265 := Aside0.mk ((g7_ : w.heap.size ≤ gb265)); have GE265 := Aside0.mk ((g7_ : w.heap.size ≤ gb265)); replace HB := Aside0.mk (below_step (impl_gets.calls_q0) hb); clear hb hbox hg; obtain ⟨hcz5_0, hcz5_1, hfz5_0, hfz5_1⟩ := blk2_ BK265) | ((with_reducible refine gate_callee (f := 91) rfl ?_); refine goesL_ (some 20) rfl rfl Try.func91 k_ rfl #[.agg #[.slice A0_0 l0_0.length c0_0, .slice A0_1 l0_1.length c0_1]] rfl (g2_) ?_; (with_reducible refine (impl_owes.calls k _ _ l0_0 _ _ l0_1 t266 _ ?side1 ?side2 ?side3 ?side4 A3.out).mono ?_); (case side1 => exact uf4_ HR0_0); (case side2 => exact HC0_0.out); (case side3 => exact uf4_ HR0_1); (case side4 => exact HC0_1.out); rintro e w6 ⟨v267, rfl, ho0, hb⟩; refine ⟨_, rfl, ?_⟩; have HO268 := Aside0.mk (Kd.R_lower ho0 (below_size (impl_gets.calls_q0))); replace BK265 := Aside0.mk (blk_below (g := gb265) (o := .cells #[.slice A0_0 l0_0.length c0_0, .slice A0_1 l0_1.length c0_1] 26 (0, 0)) (uf0_ BK265) hb); replace HB := Aside0.mk (below_step (impl_gets.calls_q0) hb); (try clear hb); (try clear hk hi); (try clear ho0)) | ((with_reducible refine gate_dst (N := 21) rfl ?_); refine Kd.R_lit k36 _ 36 ?hg (N := 21) ?hd (xs := ([] : List (S36))) (inner := []) (ok := fun _ => True) (okp := fun _ => True) ?hr ?hp (fun _ hk => hk) trivial (Below.refl _ _) (Nat.le_refl _) (by simp) ?_; (case hd => rfl); (case hg => rfl); (case hr => first | (go_simp; done) | (go_simp; rfl)); (case hp => exact (Reps.none _ _)); intro v270 w7 ho8 hb hg_ hnew_; clear hg_ hnew_; (first | rw [← Ny269.out] at ho8 | (simp only [Int.reduceToNat] at ho8; rw [← Ny269.out] at ho8)); replace HO268 := Aside0.mk (Kd.R_below (uf1_ HO268) hb); have HO271 := Aside0.mk (Kd.R_lower ho8 (below_size (impl_gets.calls_q0))); replace BK265 := Aside0.mk (blk_below (g := gb265) (o := .cells #[.slice A0_0 l0_0.length c0_0, .slice A0_1 l0_1.length c0_1] 26 (0, 0)) (uf0_ BK265) hb); replace HB := Aside0.mk (below_step (impl_gets.calls_q0) hb); clear hb ho8; obtain ⟨hcz9_0, hcz9_1, hfz9_0, hfz9_1⟩ := blk2_ BK265))
 go_loopg [7, 25] k (fun kq v7 v25 w' => ∃ (x7_1 : List (S36)) (x25_1 : Int), v25 = .int .i64 x25_1 ∧ Aside0 (impl_gets.l0 kq l1 t266 x7_1 l0_0 (l0_0.length : Int) x25_1 l0_0 l0_1 = some (r1, r2)) ∧ Aside0 (kq ≤ k) ∧ Aside0 (Kd.R (Kd.int .i64) 3 w' w.heap.size (fun _ => True) v267 t266) ∧ Aside0 (Kd.R k36 36 w' w.heap.size (fun _ => True) v7 x7_1) ∧ Aside0 (w'.heap[gb265]? = some (.cells #[(.slice A0_0 l0_0.length c0_0), (.slice A0_1 l0_1.length c0_1)] 26 (0, 0))) ∧ Aside0 (Below w.heap.size w w'))
 case atStart => exact ⟨(y269), (0), (g3_), H', ⟨Nat.le_refl _⟩, ⟨uf1_ HO268⟩, ⟨uf1_ HO271⟩, ⟨uf0_ BK265⟩, ⟨impl_gets.calls_q0⟩⟩
 case round =>
  clear H'
  try clear c1
  try clear p2
  try clear c5
  try clear c9
  try clear hcz5_0
  try clear hcz5_1
  try clear hcz9_0
  try clear hcz9_1
  try clear hfz5_0
  try clear hfz5_1
  try clear hfz9_0
  try clear hfz9_1
  obtain ⟨x7_1, x25_1, rfl, HA, HK1, HO_6, HO_7, BK265, HB⟩ := hrel
  cases gk with
  | zero => exact absurd HA.out (by simp [impl_gets.l0])
  | succ k1 =>
   have H := HA.out
   clear HA
   simp only [impl_gets.l0] at H
   by_cases c10 : x25_1 < (l0_0.length : Int)
   ·rw [if_pos c10] at H
    have c10b0 := decide_eq_true c10
    clear c10
    by_cases c11 : 0 ≤ x25_1
    ·rw [if_pos c11] at H
     have c11b0 := decide_eq_true c11
     clear c11
     by_cases c12 : x25_1 < (l0_0.length : Int)
     ·rw [if_pos c12] at H
      have c12b0 := decide_eq_true c12
      clear c12
      replace H := Option.bind_eq_some_iff.mp H
      obtain ⟨⟨t273, t274⟩, A130, H⟩ := H
      replace H : (impl_gets.l1 k1 l1 t266 x7_1 x25_1 l0_0 (l0_0.length : Int) x25_1 l0_1 (l0_1.length : Int) 0 l0_0 l0_1 t273 t274) = some (r1, r2) := H
      have A13 := Aside0.mk A130
      clear A130
      have H' := Aside0.mk H
      clear H
      have p272 : 0 ≤ (x25_1 : Int) := of_decide_eq_true (g1_)
      have q272 : x25_1 < (l0_0.length : Int) := of_decide_eq_true (g1_)
      obtain ⟨ad272, e272, hx272_0⟩ := Kd.at_int HR0_0.out x25_1 p272 q272
      cases e272
      replace hx272_0 := cl_ HB hx272_0
      replace p272 := eq_true p272
      replace q272 := eq_true q272
      go_wp2_with (first | ((with_reducible refine gate_callee (f := 89) rfl ?_); refine goesL_ (some 31) rfl rfl Try.func89 k_ rfl #[.int .i64 (rd l0_0 x25_1)] rfl (g2_) ?_; (with_reducible refine (impl_whole.calls (rd l0_0 x25_1) t273 t274 _ A13.out).mono ?_); rintro e w14 ⟨rfl, hb⟩; refine ⟨_, rfl, ?_⟩; replace HO_6 := Aside0.mk (Kd.R_below (uf1_ HO_6) hb); replace HO_7 := Aside0.mk (Kd.R_below (uf1_ HO_7) hb); replace BK265 := Aside0.mk (blk_below (g := gb265) (o := .cells #[.slice (some ad272) l0_0.length c0_0, .slice A0_1 l0_1.length c0_1] 26 (0, 0)) (uf0_ BK265) hb); replace HB := Aside0.mk (below_step (impl_gets.calls_q0) hb); (try clear hb); (try clear hk hi)) | ((with_reducible refine gate_dst (N := 10) rfl ?_); refine bx_ (N := 10) #[.int .i64 0, .int .i64 0] 36 ?_; intro gb275 hg w15 hbox hb; replace HO_6 := Aside0.mk (Kd.R_below (uf1_ HO_6) hb); replace HO_7 := Aside0.mk (Kd.R_below (Kd.R_elderB (uf1_ HO_7) gb275 (Nat.le_of_eq hg.symm)) hb); have BK275 := Aside0.mk (hbox); have GW275 := Aside0.mk ((g7_ : w.heap.size ≤ gb275)); have GE275 := Aside0.mk ((g7_ : w.heap.size ≤ gb275)); replace HB := Aside0.mk (below_step (impl_gets.calls_q0) hb); have NB265_275 := Aside0.mk ((by rw [hg]; exact Nat.ne_of_lt (blk_lt (g := gb265) (o := .cells #[.slice (some ad272) l0_0.length c0_0, .slice A0_1 l0_1.length c0_1] 26 (0, 0)) (uf0_ BK265)) : gb265 ≠ gb275)); have NB275_265 := Aside0.mk ((by rw [hg]; exact Nat.ne_of_gt (blk_lt (g := gb265) (o := .cells #[.slice (some ad272) l0_0.length c0_0, .slice A0_1 l0_1.length c0_1] 26 (0, 0)) (uf0_ BK265)) : gb275 ≠ gb265)); replace BK265 := Aside0.mk (blk_below (g := gb265) (o := .cells #[.slice (some ad272) l0_0.length c0_0, .slice A0_1 l0_1.length c0_1] 26 (0, 0)) (uf0_ BK265) hb); clear hb hbox hg; have hnb16 := NB275_265.out; have hnc16 := NB265_275.out; obtain ⟨hcz17_0, hcz17_1, hfz17_0, hfz17_1⟩ := blk2_ BK275; obtain ⟨hcz18_0, hcz18_1, hfz18_0, hfz18_1⟩ := blk2_ BK265))
      go_loopg [35] k1 (fun kq v35 w' => ∃ (x35_2 : Int) (x276000_2 : Int) (x276001_2 : Int), v35 = .int .i64 x35_2 ∧ Aside0 (impl_gets.l1 kq l1 t266 x7_1 x25_1 l0_0 (l0_0.length : Int) x25_1 l0_1 (l0_1.length : Int) x35_2 l0_0 l0_1 x276000_2 x276001_2 = some (r1, r2)) ∧ Aside0 (kq ≤ k1) ∧ Aside0 (Kd.R (Kd.int .i64) 3 w' w.heap.size (fun _ => True) v267 t266) ∧ Aside0 (Kd.R k36 36 w' w.heap.size (fun k_ => k_ ≠ gb275) u7 x7_1) ∧ Aside0 (w'.heap[gb265]? = some (.cells #[(.slice (some ad272) l0_0.length c0_0), (.slice A0_1 l0_1.length c0_1)] 26 (0, 0))) ∧ Aside0 (w'.heap[gb275]? = some (.cells #[.int .i64 x276000_2, .int .i64 x276001_2] 36 (0, 0))) ∧ Aside0 (Below w.heap.size w w'))
      case atStart => exact ⟨(0), (t273), (t274), (g3_), H', ⟨Nat.le_refl _⟩, ⟨by (with_reducible repeat (first | apply Kd.R_alloc | apply Kd.R_drewN | apply Kd.R_drew)); exact Kd.R_mono (Kd.R_far (p := ⟨gb275, 1, none⟩) (Kd.R_far (p := ⟨gb275, 0, none⟩) (Kd.R_types HO_6.out BK275.out (by decide)) (fun _ hk => hk.2) (.int .i64 t273)) (fun _ hk => hk.2) (.int .i64 t274)) (fun _ hk => trivial)⟩, ⟨by (with_reducible repeat (first | apply Kd.R_alloc | apply Kd.R_drewN | apply Kd.R_drew)); exact Kd.R_mono (Kd.R_far (p := ⟨gb275, 1, none⟩) (Kd.R_far (p := ⟨gb275, 0, none⟩) (Kd.R_mono HO_7.out (fun k_ hk => (⟨hk, hk.2⟩ : _ ∧ k_ ≠ gb275))) (fun _ hk => hk.2) (.int .i64 t273)) (fun _ hk => hk.2) (.int .i64 t274)) (fun _ hk => hk.1.2)⟩, ⟨by (with_reducible repeat (first | refine blk_drewN ?_ _ | refine blk_drew ?_ | refine blk_alloc ?_ _)); refine blk_far ?_ NB265_275.out _; (with_reducible repeat (first | refine blk_drewN ?_ _ | refine blk_drew ?_ | refine blk_alloc ?_ _)); refine blk_far ?_ NB265_275.out _; (with_reducible repeat (first | refine blk_drewN ?_ _ | refine blk_drew ?_ | refine blk_alloc ?_ _)); exact BK265.out⟩, ⟨by (with_reducible repeat (first | refine blk_drewN ?_ _ | refine blk_drew ?_ | refine blk_alloc ?_ _)); refine blk_put (cs := #[.int .i64 t273, .int .i64 0]) ?_ 1 _ rfl; (with_reducible repeat (first | refine blk_drewN ?_ _ | refine blk_drew ?_ | refine blk_alloc ?_ _)); refine blk_put (cs := #[.int .i64 0, .int .i64 0]) ?_ 0 _ rfl; (with_reducible repeat (first | refine blk_drewN ?_ _ | refine blk_drew ?_ | refine blk_alloc ?_ _)); exact BK275.out⟩, ⟨impl_gets.calls_q0⟩⟩
      case round =>
       clear H'
       try clear c1
       try clear p2
       try clear q2
       try clear hx2
       try clear c5
       try clear c8
       try clear c9
       try clear c10
       try clear c10b0
       try clear c11
       try clear c11b0
       try clear c12
       try clear c12b0
       try clear c16
       try clear hcz17_0
       try clear hcz17_1
       try clear hcz18_0
       try clear hcz18_1
       try clear hcz5_0
       try clear hcz5_1
       try clear hcz9_0
       try clear hcz9_1
       try clear hfz17_0
       try clear hfz17_1
       try clear hfz18_0
       try clear hfz18_1
       try clear hfz5_0
       try clear hfz5_1
       try clear hfz9_0
       try clear hfz9_1
       try clear hx272_0
       try clear p2
       try clear p272
       try clear q272
       obtain ⟨x35_2, x276000_2, x276001_2, rfl, HA, HK2, HO_6, HO_7, BK265, BK275, HB⟩ := hrel
       cases gk with
       | zero => exact absurd HA.out (by simp [impl_gets.l1])
       | succ k2 =>
        have H := HA.out
        clear HA
        simp only [impl_gets.l1] at H
        by_cases c19 : x35_2 < (l0_1.length : Int)
        ·rw [if_pos c19] at H
         have c19b0 := decide_eq_true c19
         clear c19
         by_cases c20 : 0 ≤ x35_2
         ·rw [if_pos c20] at H
          have c20b0 := decide_eq_true c20
          clear c20
          by_cases c21 : x35_2 < (l0_1.length : Int)
          ·rw [if_pos c21] at H
           have c21b0 := decide_eq_true c21
           clear c21
           have HC22 := Aside0.mk H
           clear H
           have p279 : 0 ≤ (x35_2 : Int) := of_decide_eq_true (g1_)
           have q279 : x35_2 < (l0_1.length : Int) := of_decide_eq_true (g1_)
           obtain ⟨ad279, A279_0, c279_0, e279, hx279_0, hl279_0, hi279_0⟩ := at_L2 HR0_1.out x35_2 p279 q279
           cases e279
           replace hx279_0 := cl_ HB hx279_0
           have HR279_0 := Aside0.mk hi279_0
           have HC279_0 := Aside0.mk hl279_0
           clear hi279_0 hl279_0
           replace p279 := eq_true p279
           replace q279 := eq_true q279
           go_upto_region 10 with (fail)
           go_cut [49] (fun v49 wc => ∃ (kq : Nat) (x49_21 : Bool), v49 = .bool x49_21 ∧ Aside0 (impl_gets.j2 kq l1 t266 x7_1 x25_1 x35_2 (rd_L2 l0_1 x35_2) l0_0 (l0_0.length : Int) x25_1 l0_1 (l0_1.length : Int) x35_2 x49_21 l0_0 l0_1 x276000_2 x276001_2 = some (r1, r2)) ∧ Aside0 (kq ≤ k2) ∧ Aside0 (Kd.R (Kd.int .i64) 3 wc w.heap.size (fun _ => True) v267 t266) ∧ Aside0 (Kd.R k36 36 wc w.heap.size (fun k_ => k_ ≠ gb275) u7 x7_1) ∧ Aside0 (wc.heap[gb265]? = some (.cells #[(.slice (some ad272) l0_0.length c0_0), (.slice (some ad279) l0_1.length c0_1)] 26 (0, 0))) ∧ Aside0 (wc.heap[gb275]? = some (.cells #[.int .i64 x276000_2, .int .i64 x276001_2] 36 (0, 0))) ∧ Aside0 (Below w.heap.size w wc))
           case first =>
            have H := HC22.out
            clear HC22
            by_cases c23 : x35_2 = x25_1
            ·rw [if_pos c23] at H
             have c23b0 : (x35_2 == x25_1) = true := beq_iff_eq.mpr c23
             have c23b1 : (x35_2 != x25_1) = false := bne_eq_false_iff_eq.mpr c23
             clear c23
             (first | rw [c23b0] | (simp only [i64_w, i32_w]; rw [c23b0]) | skip)
             have H' := Aside0.mk H
             clear H
             go_wp2
             go_meet
             case rel => exact ⟨_, (true), (g3_), H', ⟨by have := HK1.out; have := HK2.out; first | omega | exact Nat.le_refl _⟩, ⟨uf1_ HO_6⟩, ⟨uf1_ HO_7⟩, ⟨uf0_ BK265⟩, ⟨uf0_ BK275⟩, ⟨impl_gets.calls_q0⟩⟩
            ·rw [if_neg c23] at H
             have c23b0 : (x35_2 == x25_1) = false := beq_eq_false_iff_ne.mpr c23
             have c23b1 : (x35_2 != x25_1) = true := bne_iff_ne.mpr c23
             (first | rw [c23b0] | (simp only [i64_w, i32_w]; rw [c23b0]) | skip)
             by_cases c24 : x35_2 < (t266.length : Int)
             ·rw [if_pos c24] at H
              have c24b0 := decide_eq_true c24
              clear c24
              have H' := Aside0.mk H
              clear H
              obtain ⟨Ao25, co25, eo25⟩ := Kd.R_slice HO_6.out
              subst eo25
              have p280 : 0 ≤ (x35_2 : Int) := of_decide_eq_true (g1_)
              have q280 : x35_2 < (t266.length : Int) := of_decide_eq_true (g1_)
              obtain ⟨ad280, e280, hx280_0⟩ := Kd.at_int (Kd.R_reads' HO_6.out).2.2 x35_2 p280 q280
              cases e280
              replace p280 := eq_true p280
              replace q280 := eq_true q280
              go_wp2
              go_meet
              case rel => exact ⟨_, (((rd t266 x35_2) == 0)), (g3_), H', ⟨by have := HK1.out; have := HK2.out; first | omega | exact Nat.le_refl _⟩, ⟨uf1_ HO_6⟩, ⟨uf1_ HO_7⟩, ⟨uf0_ BK265⟩, ⟨uf0_ BK275⟩, ⟨impl_gets.calls_q0⟩⟩
             ·rw [if_neg c24] at H
              exact absurd H (by simp)
           case rest =>
            clear HC22
            try clear c1
            try clear c2
            try clear p2
            try clear q2
            try clear hx2
            try clear c5
            try clear c8
            try clear c9
            try clear c10
            try clear c10b0
            try clear c11
            try clear c11b0
            try clear c12
            try clear c12b0
            try clear c16
            try clear c19
            try clear c19b0
            try clear c20
            try clear c20b0
            try clear c21
            try clear c21b0
            try clear c23
            try clear c23b0
            try clear c23b1
            try clear c24
            try clear c24b0
            try clear hcz17_0
            try clear hcz17_1
            try clear hcz18_0
            try clear hcz18_1
            try clear hcz5_0
            try clear hcz5_1
            try clear hcz9_0
            try clear hcz9_1
            try clear hfz17_0
            try clear hfz17_1
            try clear hfz18_0
            try clear hfz18_1
            try clear hfz5_0
            try clear hfz5_1
            try clear hfz9_0
            try clear hfz9_1
            try clear hx272_0
            try clear hx279_0
            try clear hx280_0
            try clear p2
            try clear p272
            try clear p279
            try clear p280
            try clear q2
            try clear q272
            try clear q279
            try clear q280
            obtain ⟨kq, x49_21, rfl, HA, HJ21, HO_6, HO_7, BK265, BK275, HB⟩ := hcut
            cases kq with
            | zero => exact absurd HA.out (by simp [impl_gets.j2])
            | succ kj21 =>
             have H := HA.out
             clear HA
             simp only [impl_gets.j2] at H
             by_cases c26 : x49_21 = true
             ·subst c26
              replace H := ifp_ H
              have H' := Aside0.mk H
              clear H
              go_wp2
              go_roundg kj21
              case measure => have := HK1.out; have := HK2.out; have := HJ21.out; omega
              case rel => exact ⟨(wrap64 (x35_2 + 1)), (x276000_2), (x276001_2), (g3_), H', ⟨by have := HK1.out; have := HK2.out; have := HJ21.out; omega⟩, ⟨uf1_ HO_6⟩, ⟨uf1_ HO_7⟩, ⟨uf0_ BK265⟩, ⟨uf0_ BK275⟩, ⟨impl_gets.calls_q0⟩⟩
             ·replace c26 := Bool.eq_false_iff.mpr c26
              subst c26
              replace H := ifn_ H
              by_cases c27 : 0 ≤ x25_1
              ·rw [if_pos c27] at H
               have c27b0 := decide_eq_true c27
               clear c27
               by_cases c28 : x25_1 < ((rd_L2 l0_1 x35_2).length : Int)
               ·rw [if_pos c28] at H
                have c28b0 := decide_eq_true c28
                clear c28
                by_cases c29 : 0 ≤ x35_2
                ·rw [if_pos c29] at H
                 have c29b0 := decide_eq_true c29
                 clear c29
                 by_cases c30 : x35_2 < (t266.length : Int)
                 ·rw [if_pos c30] at H
                  have c30b0 := decide_eq_true c30
                  clear c30
                  replace H := Option.bind_eq_some_iff.mp H
                  obtain ⟨⟨t283, t284, t285⟩, A310, H⟩ := H
                  replace H : (if x35_2 < (l1.length : Int) then ((impl_times.f kj21 ((rd_T36 l1 x35_2).f0) ((rd_T36 l1 x35_2).f1) t283 t284).bind fun bt288 => ((impl_plus.f kj21 x276000_2 x276001_2 bt288.1 bt288.2.1).bind fun bt292 => (if bt288.2.2 = true then (if bt292.2.2 = true then (impl_gets.l1 kj21 l1 t266 x7_1 x25_1 l0_0 (l0_0.length : Int) x25_1 l0_1 (l0_1.length : Int) (wrap64 (x35_2 + 1)) l0_0 l0_1 bt292.1 bt292.2.1) else (some (([] : List (S36)), false))) else (some (([] : List (S36)), false))))) else (none)) = some (r1, r2) := H
                  have A31 := Aside0.mk A310
                  clear A310
                  by_cases c32 : x35_2 < (l1.length : Int)
                  ·rw [if_pos c32] at H
                   have c32b0 := decide_eq_true c32
                   clear c32
                   replace H := Option.bind_eq_some_iff.mp H
                   obtain ⟨⟨t288, t289, t290⟩, A330, H⟩ := H
                   replace H : ((impl_plus.f kj21 x276000_2 x276001_2 t288 t289).bind fun bt292 => (if t290 = true then (if bt292.2.2 = true then (impl_gets.l1 kj21 l1 t266 x7_1 x25_1 l0_0 (l0_0.length : Int) x25_1 l0_1 (l0_1.length : Int) (wrap64 (x35_2 + 1)) l0_0 l0_1 bt292.1 bt292.2.1) else (some (([] : List (S36)), false))) else (some (([] : List (S36)), false)))) = some (r1, r2) := H
                   have A33 := Aside0.mk A330
                   clear A330
                   replace H := Option.bind_eq_some_iff.mp H
                   obtain ⟨⟨t292, t293, t294⟩, A340, H⟩ := H
                   replace H : (if t290 = true then (if t294 = true then (impl_gets.l1 kj21 l1 t266 x7_1 x25_1 l0_0 (l0_0.length : Int) x25_1 l0_1 (l0_1.length : Int) (wrap64 (x35_2 + 1)) l0_0 l0_1 t292 t293) else (some (([] : List (S36)), false))) else (some (([] : List (S36)), false))) = some (r1, r2) := H
                   have A34 := Aside0.mk A340
                   clear A340
                   by_cases c35 : t290 = true
                   ·subst c35
                    replace H := ifp_ H
                    by_cases c36 : t294 = true
                    ·subst c36
                     replace H := ifp_ H
                     have H' := Aside0.mk H
                     clear H
                     try go_wp2
                     replace HO_6 := Aside0.mk (Kd.R_drew HO_6.out)
                     replace HO_7 := Aside0.mk (Kd.R_drew HO_7.out)
                     replace BK265 := Aside0.mk (blk_drew BK265.out)
                     replace BK275 := Aside0.mk (blk_drew BK275.out)
                     replace HB := Aside0.mk (below_drew1 HB.out)
                     have p281 : 0 ≤ (x25_1 : Int) := of_decide_eq_true (g1_)
                     have q281 : x25_1 < ((rd_L2 l0_1 x35_2).length : Int) := of_decide_eq_true (g1_)
                     obtain ⟨ad281, e281, hx281_0⟩ := Kd.at_int HR279_0.out x25_1 p281 q281
                     have hw281_0 := hx281_0
                     cases e281
                     replace hx281_0 := cl_ HB hx281_0
                     replace p281 := eq_true p281
                     replace q281 := eq_true q281
                     obtain ⟨Ao38, co38, eo38⟩ := Kd.R_slice HO_6.out
                     (first | subst eo38 | (injection eo38 with f1_ f2_ f3_; have f4_ := f1_.symm; have f5_ := f3_.symm; clear f1_ f2_ f3_; subst f4_; subst f5_))
                     have p282 : 0 ≤ (x35_2 : Int) := of_decide_eq_true (g1_)
                     have q282 : x35_2 < (t266.length : Int) := of_decide_eq_true (g1_)
                     obtain ⟨ad282, e282, hx282_0⟩ := Kd.at_int (Kd.R_reads' HO_6.out).2.2 x35_2 p282 q282
                     cases e282
                     replace p282 := eq_true p282
                     replace q282 := eq_true q282
                     refine start_ (n := 15) (S := fun w' => w'.cell? (ad281.add (x25_1).toNat) = some (.int .i64 (rd (rd_L2 l0_1 x35_2) x25_1)) ∧ w'.cell? (ad282.add (x35_2).toNat) = some (.int .i64 (rd t266 x35_2))) (ds := []) (tl_ 15 0) (g0_) rfl (g0_) ⟨((cl_ HB hw281_0).trans rfl), hx282_0⟩ (fun hHeld => ?_); refine with_tabW impl_gets.tab11 impl_gets.bits11 (fun HT_ HW_ => ?_)
                     generalize wc.drew = w37 at HO_6 HO_7 BK265 BK275 HB hx281_0 hx282_0 hHeld ⊢
                     refine pw_ 0 51 (tl_ 15 1) rfl rfl ?_
                     refine pw_ 1 52 (tl_ 15 3) rfl rfl ?_
                     refine pw_ 2 53 (tl_ 15 7) rfl rfl ?_
                     refine pw_ 4 55 (tl_ 15 23) rfl rfl ?_
                     refine pw_ 5 56 (tl_ 15 55) rfl rfl ?_
                     refine pw_ 6 57 (tl_ 15 119) rfl rfl ?_
                     refine tk0_ 3 54 (tl_ 15 127) rfl rfl hHeld ?_
                     refine tk0_ 7 58 (tl_ 15 255) rfl rfl hHeld ?_
                     refine join_ (σ := Nat) 2 (tl_ 15 8191) (fun s_ => [(59, .tuple #[.agg #[.int .i64 t283, .int .i64 t284], .bool t285]), (13, .pointer (some ⟨s_, 0, none⟩)), (50, .tuple #[.agg #[.int .i64 t283, .int .i64 t284], .bool t285]), (60, .agg #[.int .i64 t283, .int .i64 t284]), (61, .bool t285)]) (fun s_ w' => (w'.cell? (ad281.add (x25_1).toNat) = some (.int .i64 (rd (rd_L2 l0_1 x35_2) x25_1)) ∧ w'.cell? (ad282.add (x35_2).toNat) = some (.int .i64 (rd t266 x35_2))) ∧ (Kd.R (Kd.int .i64) 3 w' w.heap.size (fun _ => True) (.slice (some ad282) t266.length co38) t266) ∧ (Kd.R k36 36 w' w.heap.size (fun k_ => k_ ≠ gb275 ∧ k_ ≠ s_) u7 x7_1) ∧ (w'.heap[gb265]? = some (.cells #[.slice (some ad272) l0_0.length c0_0, .slice (some ad279) l0_1.length c0_1] 26 (0, 0))) ∧ (w'.heap[gb275]? = some (.cells #[.int .i64 x276000_2, .int .i64 x276001_2] 36 (0, 0))) ∧ (w'.heap[s_]? = some (.cells #[.int .i64 0, .int .i64 0] 36 (0, 0))) ∧ (w.heap.size ≤ s_) ∧ (w.heap.size ≤ s_) ∧ (gb265 ≠ s_) ∧ (s_ ≠ gb265) ∧ (gb275 ≠ s_) ∧ (s_ ≠ gb275) ∧ (Below w.heap.size w w')) ?_ ?_
                     rotate_left
                     ·intro hCont
                      refine two_ (i := 8) (j := 12) (Ni := some 59) (Nj := some 13) (tl_ 15 511) (tl_ 15 4351) rfl rfl rfl rfl (two_of HT_.out (g0_)) (by decide) (by decide) (fun K hK => ?_) (fun K hK => ?_)
                      ·skip
                       refine goes_ Try.func92 (g0_) rfl #[.int .i64 (rd (rd_L2 l0_1 x35_2) x25_1), .int .i64 (rd t266 x35_2)] (by rfl) rfl rfl (g2_) ?_
                       with_reducible refine (impl_lowest.calls kj21 (rd (rd_L2 l0_1 x35_2) x25_1) (rd t266 x35_2) t283 t284 t285 _ A31.out).mono ?_
                       rintro e w39 ⟨rfl, hb⟩
                       have HS1_ := (hb.cell (World.block_lt_of_cell? _ _ (hHeld.2))).trans (hHeld.2)
                       refine ⟨_, rfl, ?_⟩
                       replace HO_6 := Aside0.mk (Kd.R_below (uf1_ HO_6) hb)
                       replace HO_7 := Aside0.mk (Kd.R_below (uf1_ HO_7) hb)
                       replace BK265 := Aside0.mk (blk_below (g := gb265) (o := .cells #[.slice (some ad272) l0_0.length c0_0, .slice (some ad279) l0_1.length c0_1] 26 (0, 0)) (uf0_ BK265) hb)
                       replace BK275 := Aside0.mk (blk_below (g := gb275) (o := .cells #[.int .i64 x276000_2, .int .i64 x276001_2] 36 (0, 0)) (uf0_ BK275) hb)
                       replace HB := Aside0.mk (below_step (impl_gets.calls_q0) hb)
                       (try clear hb)
                       (try clear hk hi)
                       refine hK.out _ _ ⟨((cl_ HB hw281_0).trans rfl), HS1_⟩ (fun hHeld => ?_)
                       clear hK K
                       refine nm_ ?_
                       refine pw_ 9 50 (tl_ 15 1023) rfl rfl ?_
                       refine pw_ 10 60 (tl_ 15 2047) rfl rfl ?_
                       refine pw_ 11 61 (tl_ 15 4095) rfl rfl ?_
                       refine one_ (i := 12) (N := some 13) (tl_ 15 8191) rfl rfl (one_of HT_.out (g0_)) (by decide) (fun K hK => ?_)
                       refine box_step ?hg (N := 13) ?hd (cs := #[.int .i64 0, .int .i64 0]) (t := 36) ?hr ?_; (case hd => rfl); (case hg => rfl); (case hr => first | (go_simp; done) | (go_simp; rfl))
                       intro gb286 hg w40 hbox hb
                       have HS1_ := (hb.cell (World.block_lt_of_cell? _ _ (hHeld.2))).trans (hHeld.2)
                       replace HO_6 := Aside0.mk (Kd.R_below (uf1_ HO_6) hb)
                       replace HO_7 := Aside0.mk (Kd.R_below (Kd.R_elderB (uf1_ HO_7) gb286 (Nat.le_of_eq hg.symm)) hb)
                       have BK286 := Aside0.mk (hbox)
                       have GW286 := Aside0.mk ((g7_ : w.heap.size ≤ gb286))
                       have GE286 := Aside0.mk ((g7_ : w.heap.size ≤ gb286))
                       replace HB := Aside0.mk (below_step (impl_gets.calls_q0) hb)
                       have NB265_286 := Aside0.mk ((g20_ : gb265 ≠ gb286))
                       have NB286_265 := Aside0.mk ((g21_ : gb286 ≠ gb265))
                       replace BK265 := Aside0.mk (blk_below (g := gb265) (o := .cells #[.slice (some ad272) l0_0.length c0_0, .slice (some ad279) l0_1.length c0_1] 26 (0, 0)) (uf0_ BK265) hb)
                       have NB275_286 := Aside0.mk ((g22_ : gb275 ≠ gb286))
                       have NB286_275 := Aside0.mk ((g23_ : gb286 ≠ gb275))
                       replace BK275 := Aside0.mk (blk_below (g := gb275) (o := .cells #[.int .i64 x276000_2, .int .i64 x276001_2] 36 (0, 0)) (uf0_ BK275) hb)
                       clear hb hbox hg
                       refine hK.out _ _ ⟨((cl_ HB hw281_0).trans rfl), HS1_⟩ (fun hHeld => ?_)
                       clear hK K
                       refine nm_ ?_
                       exact norm_ (g8_) (hCont (gb286) _ ⟨hHeld, (uf1_ HO_6), (uf1_ HO_7), (uf0_ BK265), (uf0_ BK275), (uf0_ BK286), GW286.out, GE286.out, NB265_286.out, NB286_265.out, NB275_286.out, NB286_275.out, (impl_gets.calls_q0)⟩)
                      ·skip
                       refine box_step ?hg (N := 13) ?hd (cs := #[.int .i64 0, .int .i64 0]) (t := 36) ?hr ?_; (case hd => rfl); (case hg => rfl); (case hr => first | (go_simp; done) | (go_simp; rfl))
                       intro gb286 hg w39 hbox hb
                       have HS1_ := (hb.cell (World.block_lt_of_cell? _ _ (hHeld.2))).trans (hHeld.2)
                       replace HO_6 := Aside0.mk (Kd.R_below (uf1_ HO_6) hb)
                       replace HO_7 := Aside0.mk (Kd.R_below (Kd.R_elderB (uf1_ HO_7) gb286 (Nat.le_of_eq hg.symm)) hb)
                       have BK286 := Aside0.mk (hbox)
                       have GW286 := Aside0.mk ((g7_ : w.heap.size ≤ gb286))
                       have GE286 := Aside0.mk ((g7_ : w.heap.size ≤ gb286))
                       replace HB := Aside0.mk (below_step (impl_gets.calls_q0) hb)
                       have NB265_286 := Aside0.mk ((g20_ : gb265 ≠ gb286))
                       have NB286_265 := Aside0.mk ((g21_ : gb286 ≠ gb265))
                       replace BK265 := Aside0.mk (blk_below (g := gb265) (o := .cells #[.slice (some ad272) l0_0.length c0_0, .slice (some ad279) l0_1.length c0_1] 26 (0, 0)) (uf0_ BK265) hb)
                       have NB275_286 := Aside0.mk ((g22_ : gb275 ≠ gb286))
                       have NB286_275 := Aside0.mk ((g23_ : gb286 ≠ gb275))
                       replace BK275 := Aside0.mk (blk_below (g := gb275) (o := .cells #[.int .i64 x276000_2, .int .i64 x276001_2] 36 (0, 0)) (uf0_ BK275) hb)
                       clear hb hbox hg
                       refine hK.out _ _ ⟨((cl_ HB hw281_0).trans rfl), HS1_⟩ (fun hHeld => ?_)
                       clear hK K
                       refine nm_ ?_
                       refine one_ (i := 8) (N := some 59) (tl_ 15 4607) rfl rfl (one_of HT_.out (g0_)) (by decide) (fun K hK => ?_)
                       refine goes_ Try.func92 (g0_) rfl #[.int .i64 (rd (rd_L2 l0_1 x35_2) x25_1), .int .i64 (rd t266 x35_2)] (by rfl) rfl rfl (g2_) ?_
                       with_reducible refine (impl_lowest.calls kj21 (rd (rd_L2 l0_1 x35_2) x25_1) (rd t266 x35_2) t283 t284 t285 _ A31.out).mono ?_
                       rintro e w40 ⟨rfl, hb⟩
                       have HS1_ := (hb.cell (World.block_lt_of_cell? _ _ (hHeld.2))).trans (hHeld.2)
                       refine ⟨_, rfl, ?_⟩
                       replace HO_6 := Aside0.mk (Kd.R_below (uf1_ HO_6) hb)
                       replace HO_7 := Aside0.mk (Kd.R_below (uf1_ HO_7) hb)
                       replace BK265 := Aside0.mk (blk_below (g := gb265) (o := .cells #[.slice (some ad272) l0_0.length c0_0, .slice (some ad279) l0_1.length c0_1] 26 (0, 0)) (uf0_ BK265) hb)
                       replace BK275 := Aside0.mk (blk_below (g := gb275) (o := .cells #[.int .i64 x276000_2, .int .i64 x276001_2] 36 (0, 0)) (uf0_ BK275) hb)
                       replace BK286 := Aside0.mk (blk_below (g := gb286) (o := .cells #[.int .i64 0, .int .i64 0] 36 (0, 0)) (uf0_ BK286) hb)
                       replace HB := Aside0.mk (below_step (impl_gets.calls_q0) hb)
                       (try clear hb)
                       (try clear hk hi)
                       refine hK.out _ _ ⟨((cl_ HB hw281_0).trans rfl), HS1_⟩ (fun hHeld => ?_)
                       clear hK K
                       refine nm_ ?_
                       refine pw_ 9 50 (tl_ 15 5119) rfl rfl ?_
                       refine pw_ 10 60 (tl_ 15 6143) rfl rfl ?_
                       refine pw_ 11 61 (tl_ 15 8191) rfl rfl ?_
                       exact norm_ (g8_) (hCont (gb286) _ ⟨hHeld, (uf1_ HO_6), (uf1_ HO_7), (uf0_ BK265), (uf0_ BK275), (uf0_ BK286), GW286.out, GE286.out, NB265_286.out, NB286_265.out, NB275_286.out, NB286_275.out, (impl_gets.calls_q0)⟩)
                     rintro gb286 w41 ⟨hS_, h0_, h1_, h2_, h3_, h4_, h5_, h6_, h7_, h8_, h9_, h10_, h11_⟩
                     replace HO_6 : Aside0 (Kd.R (Kd.int .i64) 3 w41 w.heap.size (fun _ => True) (.slice (some ad282) t266.length co38) t266) := ⟨h0_⟩
                     replace HO_7 : Aside0 (Kd.R k36 36 w41 w.heap.size (fun k_ => k_ ≠ gb275 ∧ k_ ≠ gb286) u7 x7_1) := ⟨h1_⟩
                     replace BK265 : Aside0 (w41.heap[gb265]? = some (.cells #[.slice (some ad272) l0_0.length c0_0, .slice (some ad279) l0_1.length c0_1] 26 (0, 0))) := ⟨h2_⟩
                     replace BK275 : Aside0 (w41.heap[gb275]? = some (.cells #[.int .i64 x276000_2, .int .i64 x276001_2] 36 (0, 0))) := ⟨h3_⟩
                     have BK286 : Aside0 (w41.heap[gb286]? = some (.cells #[.int .i64 0, .int .i64 0] 36 (0, 0))) := ⟨h4_⟩
                     have GW286 : Aside0 (w.heap.size ≤ gb286) := ⟨h5_⟩
                     have GE286 : Aside0 (w.heap.size ≤ gb286) := ⟨h6_⟩
                     have NB265_286 : Aside0 (gb265 ≠ gb286) := ⟨h7_⟩
                     have NB286_265 : Aside0 (gb286 ≠ gb265) := ⟨h8_⟩
                     have NB275_286 : Aside0 (gb275 ≠ gb286) := ⟨h9_⟩
                     have NB286_275 : Aside0 (gb286 ≠ gb275) := ⟨h10_⟩
                     replace HB : Aside0 (Below w.heap.size w w41) := ⟨h11_⟩
                     clear h0_ h1_ h2_ h3_ h4_ h5_ h6_ h7_ h8_ h9_ h10_ h11_
                     have hHeld : w41.cell? (ad281.add (x25_1).toNat) = some (.int .i64 (rd (rd_L2 l0_1 x35_2) x25_1)) ∧ w41.cell? (ad282.add (x35_2).toNat) = some (.int .i64 (rd t266 x35_2)) := hS_
                     refine norm_ (a' := ?_) ?_ ?_
                     rotate_left
                     ·simp only [putAll, Act.put, List.setIfInBounds_toArray, List.set_cons_zero, List.set_cons_succ]
                      rfl
                     refine one_ (i := 13) (N := none) (tl_ 15 16383) rfl rfl (one_of HT_.out (g0_)) (by decide) (fun K hK => ?_)
                     have hs42 : w41.cell? ⟨gb286, 0, none⟩ = some (.int .i64 0) := (blk_cell BK286.out 0).trans rfl
                     have hfs42 := blk_frozen BK286.out 0
                     have hns42_0 := NB265_286.out
                     have hns42_1 := NB275_286.out
                     have hms42_0 := NB286_265.out
                     have hms42_1 := NB286_275.out
                     have hs43 : w41.cell? ⟨gb286, 1, none⟩ = some (.int .i64 0) := (blk_cell BK286.out 1).trans rfl
                     have hfs43 := blk_frozen BK286.out 1
                     have hns43_0 := NB265_286.out
                     have hns43_1 := NB275_286.out
                     have hms43_0 := NB286_265.out
                     have hms43_1 := NB286_275.out
                     refine skip_ (w1 := ?_) (by rfl) rfl ?_ ?_
                     rotate_left
                     ·go_simp
                      rfl
                     refine hK.out _ _ ⟨((cell_far (p := ⟨gb286, _, none⟩) (by first | exact Nat.ne_of_lt (Nat.lt_of_lt_of_le (by have := World.block_lt_of_cell? _ _ hw281_0; first | rwa [add_block] at this | exact this) GW286.out) | (rw [add_block]; exact Nat.ne_of_lt (Nat.lt_of_lt_of_le (by have := World.block_lt_of_cell? _ _ hw281_0; first | rwa [add_block] at this | exact this) GW286.out)) | (show (Addr.add _ _).block ≠ _; rw [add_block]; exact Nat.ne_of_lt (Nat.lt_of_lt_of_le (by have := World.block_lt_of_cell? _ _ hw281_0; first | rwa [add_block] at this | exact this) GW286.out)) | (dsimp only; exact Nat.ne_of_lt (Nat.lt_of_lt_of_le (by have := World.block_lt_of_cell? _ _ hw281_0; first | rwa [add_block] at this | exact this) GW286.out))) _).trans (((cell_far (p := ⟨gb286, _, none⟩) (by first | exact Nat.ne_of_lt (Nat.lt_of_lt_of_le (by have := World.block_lt_of_cell? _ _ hw281_0; first | rwa [add_block] at this | exact this) GW286.out) | (rw [add_block]; exact Nat.ne_of_lt (Nat.lt_of_lt_of_le (by have := World.block_lt_of_cell? _ _ hw281_0; first | rwa [add_block] at this | exact this) GW286.out)) | (show (Addr.add _ _).block ≠ _; rw [add_block]; exact Nat.ne_of_lt (Nat.lt_of_lt_of_le (by have := World.block_lt_of_cell? _ _ hw281_0; first | rwa [add_block] at this | exact this) GW286.out)) | (dsimp only; exact Nat.ne_of_lt (Nat.lt_of_lt_of_le (by have := World.block_lt_of_cell? _ _ hw281_0; first | rwa [add_block] at this | exact this) GW286.out))) _).trans (hHeld.1)))), ((cell_far (p := ⟨gb286, _, none⟩) (g52_) _).trans (((cell_far (p := ⟨gb286, _, none⟩) (g52_) _).trans (hHeld.2))))⟩ (fun hHeld => ?_)
                     clear hK K
                     refine pw_ 14 14 (tl_ 15 32767) rfl rfl ?_
                     refine done_ (done_of HT_.out (g0_)) ?_
                     try go_wp2
                     have n0_ : Aside0 (Kd.R (Kd.int .i64) 3 ((w41.setCell ⟨gb286, 0, none⟩ (.int .i64 t283)).setCell ⟨gb286, 1, none⟩ (.int .i64 t284)) w.heap.size (fun _ => True) (.slice (some ad282) t266.length co38) t266) := ⟨g126_⟩
                     have n1_ : Aside0 (Kd.R k36 36 ((w41.setCell ⟨gb286, 0, none⟩ (.int .i64 t283)).setCell ⟨gb286, 1, none⟩ (.int .i64 t284)) w.heap.size (fun k_ => k_ ≠ gb275 ∧ k_ ≠ gb286) u7 x7_1) := ⟨g127_⟩
                     have n2_ : Aside0 (((w41.setCell ⟨gb286, 0, none⟩ (.int .i64 t283)).setCell ⟨gb286, 1, none⟩ (.int .i64 t284)).heap[gb265]? = some (.cells #[.slice (some ad272) l0_0.length c0_0, .slice (some ad279) l0_1.length c0_1] 26 (0, 0))) := ⟨g128_⟩
                     have n3_ : Aside0 (((w41.setCell ⟨gb286, 0, none⟩ (.int .i64 t283)).setCell ⟨gb286, 1, none⟩ (.int .i64 t284)).heap[gb275]? = some (.cells #[.int .i64 x276000_2, .int .i64 x276001_2] 36 (0, 0))) := ⟨g129_⟩
                     have n4_ : Aside0 (((w41.setCell ⟨gb286, 0, none⟩ (.int .i64 t283)).setCell ⟨gb286, 1, none⟩ (.int .i64 t284)).heap[gb286]? = some (.cells #[.int .i64 t283, .int .i64 t284] 36 (0, 0))) := ⟨g130_⟩
                     have n5_ : Aside0 (Below w.heap.size w ((w41.setCell ⟨gb286, 0, none⟩ (.int .i64 t283)).setCell ⟨gb286, 1, none⟩ (.int .i64 t284))) := ⟨impl_gets.calls_q0⟩
                     (try clear HO_6)
                     (try clear HO_7)
                     (try clear BK265)
                     (try clear BK275)
                     (try clear BK286)
                     (try clear HB)
                     generalize ((w41.setCell ⟨gb286, 0, none⟩ (.int .i64 t283)).setCell ⟨gb286, 1, none⟩ (.int .i64 t284)) = w44 at n0_ n1_ n2_ n3_ n4_ n5_ ⊢
                     have HO_6 := n0_
                     have HO_7 := n1_
                     have BK265 := n2_
                     have BK275 := n3_
                     have BK286 := n4_
                     have HB := n5_
                     clear n0_ n1_ n2_ n3_ n4_ n5_
                     replace HO_6 := Aside0.mk (Kd.R_drew HO_6.out)
                     replace HO_7 := Aside0.mk (Kd.R_drew HO_7.out)
                     replace BK265 := Aside0.mk (blk_drew BK265.out)
                     replace BK275 := Aside0.mk (blk_drew BK275.out)
                     replace BK286 := Aside0.mk (blk_drew BK286.out)
                     replace HB := Aside0.mk (below_drew1 HB.out)
                     have p287 : 0 ≤ (x35_2 : Int) := of_decide_eq_true (g1_)
                     have q287 : x35_2 < (l1.length : Int) := of_decide_eq_true (g1_)
                     obtain ⟨ad287, e287, hx287_0, hx287_1⟩ := at_T36 HR1.out x35_2 p287 q287
                     have hw287_1 := hx287_1
                     have hw287_0 := hx287_0
                     cases e287
                     replace hx287_0 := cl_ HB hx287_0
                     replace hx287_1 := cl_ HB hx287_1
                     replace p287 := eq_true p287
                     replace q287 := eq_true q287
                     refine start_ (n := 12) (S := fun w' => w'.cell? ⟨gb286, 0, none⟩ = some (.int .i64 t283) ∧ w'.cell? ⟨gb286, 1, none⟩ = some (.int .i64 t284) ∧ w'.cell? (ad287.add ((x35_2).toNat * 2)) = some (.int .i64 ((rd_T36 l1 x35_2).f0)) ∧ w'.cell? ⟨(ad287.add ((x35_2).toNat * 2)).block, (ad287.add ((x35_2).toNat * 2)).off + 1, none⟩ = some (.int .i64 ((rd_T36 l1 x35_2).f1))) (ds := []) (tl_ 12 0) (g0_) rfl (g0_) ⟨(blk_cell BK286.out 0).trans rfl, (blk_cell BK286.out 1).trans rfl, ((cl_ HB hw287_0).trans rfl), ((cl_ HB hw287_1).trans rfl)⟩ (fun hHeld => ?_); refine with_tabW impl_gets.tab12 impl_gets.bits12 (fun HT_ HW_ => ?_)
                     generalize w44.drew = w45 at HO_6 HO_7 BK265 BK275 BK286 HB hx287_0 hx287_1 hHeld ⊢
                     refine pw_ 0 63 (tl_ 12 1) rfl rfl ?_
                     refine pw_ 1 64 (tl_ 12 3) rfl rfl ?_
                     refine pw_ 2 65 (tl_ 12 7) rfl rfl ?_
                     refine tk3_ 3 66 (tl_ 12 15) rfl rfl hHeld ?_
                     refine tk3_ 4 67 (tl_ 12 31) rfl rfl hHeld ?_
                     refine join_ (σ := Nat) 2 (tl_ 12 1023) (fun s_ => [(68, .tuple #[.agg #[.int .i64 t288, .int .i64 t289], .bool true]), (15, .pointer (some ⟨s_, 0, none⟩)), (62, .tuple #[.agg #[.int .i64 t288, .int .i64 t289], .bool true]), (69, .agg #[.int .i64 t288, .int .i64 t289]), (70, .bool true)]) (fun s_ w' => (w'.cell? ⟨gb286, 0, none⟩ = some (.int .i64 t283) ∧ w'.cell? ⟨gb286, 1, none⟩ = some (.int .i64 t284) ∧ w'.cell? (ad287.add ((x35_2).toNat * 2)) = some (.int .i64 ((rd_T36 l1 x35_2).f0)) ∧ w'.cell? ⟨(ad287.add ((x35_2).toNat * 2)).block, (ad287.add ((x35_2).toNat * 2)).off + 1, none⟩ = some (.int .i64 ((rd_T36 l1 x35_2).f1))) ∧ (Kd.R (Kd.int .i64) 3 w' w.heap.size (fun _ => True) (.slice (some ad282) t266.length co38) t266) ∧ (Kd.R k36 36 w' w.heap.size (fun k_ => k_ ≠ gb275 ∧ k_ ≠ gb286 ∧ k_ ≠ s_) u7 x7_1) ∧ (w'.heap[gb265]? = some (.cells #[.slice (some ad272) l0_0.length c0_0, .slice (some ad279) l0_1.length c0_1] 26 (0, 0))) ∧ (w'.heap[gb275]? = some (.cells #[.int .i64 x276000_2, .int .i64 x276001_2] 36 (0, 0))) ∧ (w'.heap[gb286]? = some (.cells #[.int .i64 t283, .int .i64 t284] 36 (0, 0))) ∧ (w'.heap[s_]? = some (.cells #[.int .i64 0, .int .i64 0] 36 (0, 0))) ∧ (w.heap.size ≤ s_) ∧ (w.heap.size ≤ s_) ∧ (gb265 ≠ s_) ∧ (s_ ≠ gb265) ∧ (gb275 ≠ s_) ∧ (s_ ≠ gb275) ∧ (gb286 ≠ s_) ∧ (s_ ≠ gb286) ∧ (Below w.heap.size w w')) ?_ ?_
                     rotate_left
                     ·intro hCont
                      refine two_ (i := 5) (j := 9) (Ni := some 68) (Nj := some 15) (tl_ 12 63) (tl_ 12 543) rfl rfl rfl rfl (two_of HT_.out (g0_)) (by decide) (by decide) (fun K hK => ?_) (fun K hK => ?_)
                      ·skip
                       refine goes_ Try.func93 (g0_) rfl #[.agg #[.int .i64 ((rd_T36 l1 x35_2).f0), .int .i64 ((rd_T36 l1 x35_2).f1)], .agg #[.int .i64 t283, .int .i64 t284]] (by rfl) rfl rfl (g2_) ?_
                       with_reducible refine (impl_times.calls kj21 ((rd_T36 l1 x35_2).f0) ((rd_T36 l1 x35_2).f1) t283 t284 t288 t289 true _ A33.out).mono ?_
                       rintro e w46 ⟨rfl, hb⟩
                       refine ⟨_, rfl, ?_⟩
                       replace HO_6 := Aside0.mk (Kd.R_below (uf1_ HO_6) hb)
                       replace HO_7 := Aside0.mk (Kd.R_below (uf1_ HO_7) hb)
                       replace BK265 := Aside0.mk (blk_below (g := gb265) (o := .cells #[.slice (some ad272) l0_0.length c0_0, .slice (some ad279) l0_1.length c0_1] 26 (0, 0)) (uf0_ BK265) hb)
                       replace BK275 := Aside0.mk (blk_below (g := gb275) (o := .cells #[.int .i64 x276000_2, .int .i64 x276001_2] 36 (0, 0)) (uf0_ BK275) hb)
                       replace BK286 := Aside0.mk (blk_below (g := gb286) (o := .cells #[.int .i64 t283, .int .i64 t284] 36 (0, 0)) (uf0_ BK286) hb)
                       replace HB := Aside0.mk (below_step (impl_gets.calls_q0) hb)
                       (try clear hb)
                       (try clear hk hi)
                       refine hK.out _ _ ⟨(blk_cell BK286.out 0).trans rfl, (blk_cell BK286.out 1).trans rfl, ((cl_ HB hw287_0).trans rfl), ((cl_ HB hw287_1).trans rfl)⟩ (fun hHeld => ?_)
                       clear hK K
                       refine nm_ ?_
                       refine pw_ 6 62 (tl_ 12 127) rfl rfl ?_
                       refine pw_ 7 69 (tl_ 12 255) rfl rfl ?_
                       refine pw_ 8 70 (tl_ 12 511) rfl rfl ?_
                       refine one_ (i := 9) (N := some 15) (tl_ 12 1023) rfl rfl (one_of HT_.out (g0_)) (by decide) (fun K hK => ?_)
                       refine box_step ?hg (N := 15) ?hd (cs := #[.int .i64 0, .int .i64 0]) (t := 36) ?hr ?_; (case hd => rfl); (case hg => rfl); (case hr => first | (go_simp; done) | (go_simp; rfl))
                       intro gb291 hg w47 hbox hb
                       replace HO_6 := Aside0.mk (Kd.R_below (uf1_ HO_6) hb)
                       replace HO_7 := Aside0.mk (Kd.R_below (Kd.R_elderB (uf1_ HO_7) gb291 (Nat.le_of_eq hg.symm)) hb)
                       have BK291 := Aside0.mk (hbox)
                       have GW291 := Aside0.mk ((g7_ : w.heap.size ≤ gb291))
                       have GE291 := Aside0.mk ((g7_ : w.heap.size ≤ gb291))
                       replace HB := Aside0.mk (below_step (impl_gets.calls_q0) hb)
                       have NB265_291 := Aside0.mk ((g20_ : gb265 ≠ gb291))
                       have NB291_265 := Aside0.mk ((g21_ : gb291 ≠ gb265))
                       replace BK265 := Aside0.mk (blk_below (g := gb265) (o := .cells #[.slice (some ad272) l0_0.length c0_0, .slice (some ad279) l0_1.length c0_1] 26 (0, 0)) (uf0_ BK265) hb)
                       have NB275_291 := Aside0.mk ((g22_ : gb275 ≠ gb291))
                       have NB291_275 := Aside0.mk ((g23_ : gb291 ≠ gb275))
                       replace BK275 := Aside0.mk (blk_below (g := gb275) (o := .cells #[.int .i64 x276000_2, .int .i64 x276001_2] 36 (0, 0)) (uf0_ BK275) hb)
                       have NB286_291 := Aside0.mk ((g37_ : gb286 ≠ gb291))
                       have NB291_286 := Aside0.mk ((g38_ : gb291 ≠ gb286))
                       replace BK286 := Aside0.mk (blk_below (g := gb286) (o := .cells #[.int .i64 t283, .int .i64 t284] 36 (0, 0)) (uf0_ BK286) hb)
                       clear hb hbox hg
                       refine hK.out _ _ ⟨(blk_cell BK286.out 0).trans rfl, (blk_cell BK286.out 1).trans rfl, ((cl_ HB hw287_0).trans rfl), ((cl_ HB hw287_1).trans rfl)⟩ (fun hHeld => ?_)
                       clear hK K
                       refine nm_ ?_
                       exact norm_ (g8_) (hCont (gb291) _ ⟨hHeld, (uf1_ HO_6), (g53_), (uf0_ BK265), (uf0_ BK275), (uf0_ BK286), (uf0_ BK291), GW291.out, GE291.out, NB265_291.out, NB291_265.out, NB275_291.out, NB291_275.out, NB286_291.out, NB291_286.out, (impl_gets.calls_q0)⟩)
                      ·skip
                       refine box_step ?hg (N := 15) ?hd (cs := #[.int .i64 0, .int .i64 0]) (t := 36) ?hr ?_; (case hd => rfl); (case hg => rfl); (case hr => first | (go_simp; done) | (go_simp; rfl))
                       intro gb291 hg w46 hbox hb
                       replace HO_6 := Aside0.mk (Kd.R_below (uf1_ HO_6) hb)
                       replace HO_7 := Aside0.mk (Kd.R_below (Kd.R_elderB (uf1_ HO_7) gb291 (Nat.le_of_eq hg.symm)) hb)
                       have BK291 := Aside0.mk (hbox)
                       have GW291 := Aside0.mk ((g7_ : w.heap.size ≤ gb291))
                       have GE291 := Aside0.mk ((g7_ : w.heap.size ≤ gb291))
                       replace HB := Aside0.mk (below_step (impl_gets.calls_q0) hb)
                       have NB265_291 := Aside0.mk ((g20_ : gb265 ≠ gb291))
                       have NB291_265 := Aside0.mk ((g21_ : gb291 ≠ gb265))
                       replace BK265 := Aside0.mk (blk_below (g := gb265) (o := .cells #[.slice (some ad272) l0_0.length c0_0, .slice (some ad279) l0_1.length c0_1] 26 (0, 0)) (uf0_ BK265) hb)
                       have NB275_291 := Aside0.mk ((g22_ : gb275 ≠ gb291))
                       have NB291_275 := Aside0.mk ((g23_ : gb291 ≠ gb275))
                       replace BK275 := Aside0.mk (blk_below (g := gb275) (o := .cells #[.int .i64 x276000_2, .int .i64 x276001_2] 36 (0, 0)) (uf0_ BK275) hb)
                       have NB286_291 := Aside0.mk ((g37_ : gb286 ≠ gb291))
                       have NB291_286 := Aside0.mk ((g38_ : gb291 ≠ gb286))
                       replace BK286 := Aside0.mk (blk_below (g := gb286) (o := .cells #[.int .i64 t283, .int .i64 t284] 36 (0, 0)) (uf0_ BK286) hb)
                       clear hb hbox hg
                       refine hK.out _ _ ⟨(blk_cell BK286.out 0).trans rfl, (blk_cell BK286.out 1).trans rfl, ((cl_ HB hw287_0).trans rfl), ((cl_ HB hw287_1).trans rfl)⟩ (fun hHeld => ?_)
                       clear hK K
                       refine nm_ ?_
                       refine one_ (i := 5) (N := some 68) (tl_ 12 575) rfl rfl (one_of HT_.out (g0_)) (by decide) (fun K hK => ?_)
                       refine goes_ Try.func93 (g0_) rfl #[.agg #[.int .i64 ((rd_T36 l1 x35_2).f0), .int .i64 ((rd_T36 l1 x35_2).f1)], .agg #[.int .i64 t283, .int .i64 t284]] (by rfl) rfl rfl (g2_) ?_
                       with_reducible refine (impl_times.calls kj21 ((rd_T36 l1 x35_2).f0) ((rd_T36 l1 x35_2).f1) t283 t284 t288 t289 true _ A33.out).mono ?_
                       rintro e w47 ⟨rfl, hb⟩
                       refine ⟨_, rfl, ?_⟩
                       replace HO_6 := Aside0.mk (Kd.R_below (uf1_ HO_6) hb)
                       replace HO_7 := Aside0.mk (Kd.R_below (uf1_ HO_7) hb)
                       replace BK265 := Aside0.mk (blk_below (g := gb265) (o := .cells #[.slice (some ad272) l0_0.length c0_0, .slice (some ad279) l0_1.length c0_1] 26 (0, 0)) (uf0_ BK265) hb)
                       replace BK275 := Aside0.mk (blk_below (g := gb275) (o := .cells #[.int .i64 x276000_2, .int .i64 x276001_2] 36 (0, 0)) (uf0_ BK275) hb)
                       replace BK286 := Aside0.mk (blk_below (g := gb286) (o := .cells #[.int .i64 t283, .int .i64 t284] 36 (0, 0)) (uf0_ BK286) hb)
                       replace BK291 := Aside0.mk (blk_below (g := gb291) (o := .cells #[.int .i64 0, .int .i64 0] 36 (0, 0)) (uf0_ BK291) hb)
                       replace HB := Aside0.mk (below_step (impl_gets.calls_q0) hb)
                       (try clear hb)
                       (try clear hk hi)
                       refine hK.out _ _ ⟨(blk_cell BK286.out 0).trans rfl, (blk_cell BK286.out 1).trans rfl, ((cl_ HB hw287_0).trans rfl), ((cl_ HB hw287_1).trans rfl)⟩ (fun hHeld => ?_)
                       clear hK K
                       refine nm_ ?_
                       refine pw_ 6 62 (tl_ 12 639) rfl rfl ?_
                       refine pw_ 7 69 (tl_ 12 767) rfl rfl ?_
                       refine pw_ 8 70 (tl_ 12 1023) rfl rfl ?_
                       exact norm_ (g8_) (hCont (gb291) _ ⟨hHeld, (uf1_ HO_6), (g53_), (uf0_ BK265), (uf0_ BK275), (uf0_ BK286), (uf0_ BK291), GW291.out, GE291.out, NB265_291.out, NB291_265.out, NB275_291.out, NB291_275.out, NB286_291.out, NB291_286.out, (impl_gets.calls_q0)⟩)
                     rintro gb291 w48 ⟨hS_, h0_, h1_, h2_, h3_, h4_, h5_, h6_, h7_, h8_, h9_, h10_, h11_, h12_, h13_, h14_⟩
                     replace HO_6 : Aside0 (Kd.R (Kd.int .i64) 3 w48 w.heap.size (fun _ => True) (.slice (some ad282) t266.length co38) t266) := ⟨h0_⟩
                     replace HO_7 : Aside0 (Kd.R k36 36 w48 w.heap.size (fun k_ => k_ ≠ gb275 ∧ k_ ≠ gb286 ∧ k_ ≠ gb291) u7 x7_1) := ⟨h1_⟩
                     replace BK265 : Aside0 (w48.heap[gb265]? = some (.cells #[.slice (some ad272) l0_0.length c0_0, .slice (some ad279) l0_1.length c0_1] 26 (0, 0))) := ⟨h2_⟩
                     replace BK275 : Aside0 (w48.heap[gb275]? = some (.cells #[.int .i64 x276000_2, .int .i64 x276001_2] 36 (0, 0))) := ⟨h3_⟩
                     replace BK286 : Aside0 (w48.heap[gb286]? = some (.cells #[.int .i64 t283, .int .i64 t284] 36 (0, 0))) := ⟨h4_⟩
                     have BK291 : Aside0 (w48.heap[gb291]? = some (.cells #[.int .i64 0, .int .i64 0] 36 (0, 0))) := ⟨h5_⟩
                     have GW291 : Aside0 (w.heap.size ≤ gb291) := ⟨h6_⟩
                     have GE291 : Aside0 (w.heap.size ≤ gb291) := ⟨h7_⟩
                     have NB265_291 : Aside0 (gb265 ≠ gb291) := ⟨h8_⟩
                     have NB291_265 : Aside0 (gb291 ≠ gb265) := ⟨h9_⟩
                     have NB275_291 : Aside0 (gb275 ≠ gb291) := ⟨h10_⟩
                     have NB291_275 : Aside0 (gb291 ≠ gb275) := ⟨h11_⟩
                     have NB286_291 : Aside0 (gb286 ≠ gb291) := ⟨h12_⟩
                     have NB291_286 : Aside0 (gb291 ≠ gb286) := ⟨h13_⟩
                     replace HB : Aside0 (Below w.heap.size w w48) := ⟨h14_⟩
                     clear h0_ h1_ h2_ h3_ h4_ h5_ h6_ h7_ h8_ h9_ h10_ h11_ h12_ h13_ h14_
                     have hHeld : w48.cell? ⟨gb286, 0, none⟩ = some (.int .i64 t283) ∧ w48.cell? ⟨gb286, 1, none⟩ = some (.int .i64 t284) ∧ w48.cell? (ad287.add ((x35_2).toNat * 2)) = some (.int .i64 ((rd_T36 l1 x35_2).f0)) ∧ w48.cell? ⟨(ad287.add ((x35_2).toNat * 2)).block, (ad287.add ((x35_2).toNat * 2)).off + 1, none⟩ = some (.int .i64 ((rd_T36 l1 x35_2).f1)) := hS_
                     refine norm_ (a' := ?_) ?_ ?_
                     rotate_left
                     ·simp only [putAll, Act.put, List.setIfInBounds_toArray, List.set_cons_zero, List.set_cons_succ]
                      rfl
                     refine one_ (i := 10) (N := none) (tl_ 12 2047) rfl rfl (one_of HT_.out (g0_)) (by decide) (fun K hK => ?_)
                     have hs49 : w48.cell? ⟨gb291, 0, none⟩ = some (.int .i64 0) := (blk_cell BK291.out 0).trans rfl
                     have hfs49 := blk_frozen BK291.out 0
                     have hns49_0 := NB265_291.out
                     have hns49_1 := NB275_291.out
                     have hns49_2 := NB286_291.out
                     have hms49_0 := NB291_265.out
                     have hms49_1 := NB291_275.out
                     have hms49_2 := NB291_286.out
                     have hs50 : w48.cell? ⟨gb291, 1, none⟩ = some (.int .i64 0) := (blk_cell BK291.out 1).trans rfl
                     have hfs50 := blk_frozen BK291.out 1
                     have hns50_0 := NB265_291.out
                     have hns50_1 := NB275_291.out
                     have hns50_2 := NB286_291.out
                     have hms50_0 := NB291_265.out
                     have hms50_1 := NB291_275.out
                     have hms50_2 := NB291_286.out
                     refine skip_ (w1 := ?_) (by rfl) rfl ?_ ?_
                     rotate_left
                     ·go_simp
                      rfl
                     refine hK.out _ _ ⟨((cell_far (p := ⟨gb291, _, none⟩) NB286_291.out _).trans (((cell_far (p := ⟨gb291, _, none⟩) NB286_291.out _).trans (hHeld.1)))), ((cell_far (p := ⟨gb291, _, none⟩) NB286_291.out _).trans (((cell_far (p := ⟨gb291, _, none⟩) NB286_291.out _).trans (hHeld.2.1)))), ((cell_far (p := ⟨gb291, _, none⟩) (by first | exact Nat.ne_of_lt (Nat.lt_of_lt_of_le (by have := World.block_lt_of_cell? _ _ hw287_0; first | rwa [add_block] at this | exact this) GW291.out) | (rw [add_block]; exact Nat.ne_of_lt (Nat.lt_of_lt_of_le (by have := World.block_lt_of_cell? _ _ hw287_0; first | rwa [add_block] at this | exact this) GW291.out)) | (show (Addr.add _ _).block ≠ _; rw [add_block]; exact Nat.ne_of_lt (Nat.lt_of_lt_of_le (by have := World.block_lt_of_cell? _ _ hw287_0; first | rwa [add_block] at this | exact this) GW291.out)) | (dsimp only; exact Nat.ne_of_lt (Nat.lt_of_lt_of_le (by have := World.block_lt_of_cell? _ _ hw287_0; first | rwa [add_block] at this | exact this) GW291.out))) _).trans (((cell_far (p := ⟨gb291, _, none⟩) (by first | exact Nat.ne_of_lt (Nat.lt_of_lt_of_le (by have := World.block_lt_of_cell? _ _ hw287_0; first | rwa [add_block] at this | exact this) GW291.out) | (rw [add_block]; exact Nat.ne_of_lt (Nat.lt_of_lt_of_le (by have := World.block_lt_of_cell? _ _ hw287_0; first | rwa [add_block] at this | exact this) GW291.out)) | (show (Addr.add _ _).block ≠ _; rw [add_block]; exact Nat.ne_of_lt (Nat.lt_of_lt_of_le (by have := World.block_lt_of_cell? _ _ hw287_0; first | rwa [add_block] at this | exact this) GW291.out)) | (dsimp only; exact Nat.ne_of_lt (Nat.lt_of_lt_of_le (by have := World.block_lt_of_cell? _ _ hw287_0; first | rwa [add_block] at this | exact this) GW291.out))) _).trans (hHeld.2.2.1)))), ((cell_far (p := ⟨gb291, _, none⟩) (by first | exact Nat.ne_of_lt (Nat.lt_of_lt_of_le (by have := World.block_lt_of_cell? _ _ hw287_1; first | rwa [add_block] at this | exact this) GW291.out) | (rw [add_block]; exact Nat.ne_of_lt (Nat.lt_of_lt_of_le (by have := World.block_lt_of_cell? _ _ hw287_1; first | rwa [add_block] at this | exact this) GW291.out)) | (show (Addr.add _ _).block ≠ _; rw [add_block]; exact Nat.ne_of_lt (Nat.lt_of_lt_of_le (by have := World.block_lt_of_cell? _ _ hw287_1; first | rwa [add_block] at this | exact this) GW291.out)) | (dsimp only; exact Nat.ne_of_lt (Nat.lt_of_lt_of_le (by have := World.block_lt_of_cell? _ _ hw287_1; first | rwa [add_block] at this | exact this) GW291.out))) _).trans (((cell_far (p := ⟨gb291, _, none⟩) (by first | exact Nat.ne_of_lt (Nat.lt_of_lt_of_le (by have := World.block_lt_of_cell? _ _ hw287_1; first | rwa [add_block] at this | exact this) GW291.out) | (rw [add_block]; exact Nat.ne_of_lt (Nat.lt_of_lt_of_le (by have := World.block_lt_of_cell? _ _ hw287_1; first | rwa [add_block] at this | exact this) GW291.out)) | (show (Addr.add _ _).block ≠ _; rw [add_block]; exact Nat.ne_of_lt (Nat.lt_of_lt_of_le (by have := World.block_lt_of_cell? _ _ hw287_1; first | rwa [add_block] at this | exact this) GW291.out)) | (dsimp only; exact Nat.ne_of_lt (Nat.lt_of_lt_of_le (by have := World.block_lt_of_cell? _ _ hw287_1; first | rwa [add_block] at this | exact this) GW291.out))) _).trans (hHeld.2.2.2))))⟩ (fun hHeld => ?_)
                     clear hK K
                     refine pw_ 11 16 (tl_ 12 4095) rfl rfl ?_
                     refine done_ (done_of HT_.out (g0_)) ?_
                     have hnb51 := NB275_265.out
                     have hnc51 := NB265_275.out
                     have hnb52 := NB275_286.out
                     have hnc52 := NB286_275.out
                     have hnb53 := NB275_291.out
                     have hnc53 := NB291_275.out
                     obtain ⟨hcz54_0, hcz54_1, hfz54_0, hfz54_1⟩ := blk2_ BK275
                     have hnb55 := NB291_265.out
                     have hnc55 := NB265_291.out
                     have hnb56 := NB291_286.out
                     have hnc56 := NB286_291.out
                     obtain ⟨hcz57_0, hcz57_1, hfz57_0, hfz57_1⟩ := blk2_ BK291
                     try go_wp2_with (first | ((with_reducible refine gate_callee (f := 81) rfl ?_); refine goesL_ (some 74) rfl rfl Try.func81 k_ rfl #[.agg #[.int .i64 x276000_2, .int .i64 x276001_2], .agg #[.int .i64 t288, .int .i64 t289]] rfl (g2_) ?_; (with_reducible refine (impl_plus.calls kj21 x276000_2 x276001_2 t288 t289 t292 t293 true _ A34.out).mono ?_); rintro e w58 ⟨rfl, hb⟩; refine ⟨_, rfl, ?_⟩; replace HO_6 := Aside0.mk (Kd.R_below (g131_) hb); replace HO_7 := Aside0.mk (Kd.R_below (g132_) hb); replace BK265 := Aside0.mk (blk_below (g := gb265) (o := .cells #[.slice (some ad272) l0_0.length c0_0, .slice (some ad279) l0_1.length c0_1] 26 (0, 0)) (g133_) hb); replace BK275 := Aside0.mk (blk_below (g := gb275) (o := .cells #[.int .i64 x276000_2, .int .i64 x276001_2] 36 (0, 0)) (g134_) hb); replace BK286 := Aside0.mk (blk_below (g := gb286) (o := .cells #[.int .i64 t283, .int .i64 t284] 36 (0, 0)) (g135_) hb); replace BK291 := Aside0.mk (blk_below (g := gb291) (o := .cells #[.int .i64 t288, .int .i64 t289] 36 (0, 0)) (g136_) hb); replace HB := Aside0.mk (below_step (impl_gets.calls_q0) hb); (try clear hb); (try clear hk hi)) | ((with_reducible refine gate_dst (N := 17) rfl ?_); refine bx_ (N := 17) #[.int .i64 0, .int .i64 0] 36 ?_; intro gb295 hg w59 hbox hb; replace HO_6 := Aside0.mk (Kd.R_below (uf1_ HO_6) hb); replace HO_7 := Aside0.mk (Kd.R_below (Kd.R_elderB (uf1_ HO_7) gb295 (Nat.le_of_eq hg.symm)) hb); have BK295 := Aside0.mk (hbox); have GW295 := Aside0.mk ((g7_ : w.heap.size ≤ gb295)); have GE295 := Aside0.mk ((g7_ : w.heap.size ≤ gb295)); replace HB := Aside0.mk (below_step (impl_gets.calls_q0) hb); have NB265_295 := Aside0.mk ((g20_ : gb265 ≠ gb295)); have NB295_265 := Aside0.mk ((g21_ : gb295 ≠ gb265)); replace BK265 := Aside0.mk (blk_below (g := gb265) (o := .cells #[.slice (some ad272) l0_0.length c0_0, .slice (some ad279) l0_1.length c0_1] 26 (0, 0)) (uf0_ BK265) hb); have NB275_295 := Aside0.mk ((g22_ : gb275 ≠ gb295)); have NB295_275 := Aside0.mk ((g23_ : gb295 ≠ gb275)); replace BK275 := Aside0.mk (blk_below (g := gb275) (o := .cells #[.int .i64 x276000_2, .int .i64 x276001_2] 36 (0, 0)) (uf0_ BK275) hb); have NB286_295 := Aside0.mk ((g37_ : gb286 ≠ gb295)); have NB295_286 := Aside0.mk ((g38_ : gb295 ≠ gb286)); replace BK286 := Aside0.mk (blk_below (g := gb286) (o := .cells #[.int .i64 t283, .int .i64 t284] 36 (0, 0)) (uf0_ BK286) hb); have NB291_295 := Aside0.mk ((g137_ : gb291 ≠ gb295)); have NB295_291 := Aside0.mk ((g138_ : gb295 ≠ gb291)); replace BK291 := Aside0.mk (blk_below (g := gb291) (o := .cells #[.int .i64 t288, .int .i64 t289] 36 (0, 0)) (uf0_ BK291) hb); clear hb hbox hg; have hnb60 := NB295_265.out; have hnc60 := NB265_295.out; have hnb61 := NB295_275.out; have hnc61 := NB275_295.out; have hnb62 := NB295_286.out; have hnc62 := NB286_295.out; have hnb63 := NB295_291.out; have hnc63 := NB291_295.out; obtain ⟨hcz64_0, hcz64_1, hfz64_0, hfz64_1⟩ := blk2_ BK295; obtain ⟨hcz65_0, hcz65_1, hfz65_0, hfz65_1⟩ := blk2_ BK275))
                     go_roundg kj21
                     case measure => have := HK1.out; have := HK2.out; have := HJ21.out; omega
                     case rel => exact ⟨(wrap64 (x35_2 + 1)), (t292), (t293), (g3_), H', ⟨by have := HK1.out; have := HK2.out; have := HJ21.out; omega⟩, ⟨by (with_reducible repeat (first | apply Kd.R_alloc | apply Kd.R_drewN | apply Kd.R_drew)); exact Kd.R_mono (Kd.R_far (p := ⟨gb275, 1, none⟩) (Kd.R_far (p := ⟨gb275, 0, none⟩) (Kd.R_far (p := ⟨gb295, 1, none⟩) (Kd.R_far (p := ⟨gb295, 0, none⟩) (Kd.R_types (Kd.R_types HO_6.out BK295.out (by decide)) BK275.out (by decide)) (fun _ hk => hk.1.2) (.int .i64 t292)) (fun _ hk => hk.1.2) (.int .i64 t293)) (fun _ hk => hk.2) (.int .i64 t292)) (fun _ hk => hk.2) (.int .i64 t293)) (fun _ hk => trivial)⟩, ⟨by (with_reducible repeat (first | apply Kd.R_alloc | apply Kd.R_drewN | apply Kd.R_drew)); exact Kd.R_mono (Kd.R_far (p := ⟨gb275, 1, none⟩) (Kd.R_far (p := ⟨gb275, 0, none⟩) (Kd.R_far (p := ⟨gb295, 1, none⟩) (Kd.R_far (p := ⟨gb295, 0, none⟩) (Kd.R_mono (Kd.R_mono HO_7.out (fun k_ hk => (⟨hk, hk.2⟩ : _ ∧ k_ ≠ gb295))) (fun k_ hk => (⟨hk, hk.1.1.1⟩ : _ ∧ k_ ≠ gb275))) (fun _ hk => hk.1.2) (.int .i64 t292)) (fun _ hk => hk.1.2) (.int .i64 t293)) (fun _ hk => hk.2) (.int .i64 t292)) (fun _ hk => hk.2) (.int .i64 t293)) (fun _ hk => hk.1.1.1.1)⟩, ⟨by (with_reducible repeat (first | refine blk_drewN ?_ _ | refine blk_drew ?_ | refine blk_alloc ?_ _)); refine blk_far ?_ NB265_275.out _; (with_reducible repeat (first | refine blk_drewN ?_ _ | refine blk_drew ?_ | refine blk_alloc ?_ _)); refine blk_far ?_ NB265_275.out _; (with_reducible repeat (first | refine blk_drewN ?_ _ | refine blk_drew ?_ | refine blk_alloc ?_ _)); refine blk_far ?_ NB265_295.out _; (with_reducible repeat (first | refine blk_drewN ?_ _ | refine blk_drew ?_ | refine blk_alloc ?_ _)); refine blk_far ?_ NB265_295.out _; (with_reducible repeat (first | refine blk_drewN ?_ _ | refine blk_drew ?_ | refine blk_alloc ?_ _)); exact BK265.out⟩, ⟨by (with_reducible repeat (first | refine blk_drewN ?_ _ | refine blk_drew ?_ | refine blk_alloc ?_ _)); refine blk_put (cs := #[.int .i64 t292, .int .i64 x276001_2]) ?_ 1 _ rfl; (with_reducible repeat (first | refine blk_drewN ?_ _ | refine blk_drew ?_ | refine blk_alloc ?_ _)); refine blk_put (cs := #[.int .i64 x276000_2, .int .i64 x276001_2]) ?_ 0 _ rfl; (with_reducible repeat (first | refine blk_drewN ?_ _ | refine blk_drew ?_ | refine blk_alloc ?_ _)); refine blk_far ?_ NB275_295.out _; (with_reducible repeat (first | refine blk_drewN ?_ _ | refine blk_drew ?_ | refine blk_alloc ?_ _)); refine blk_far ?_ NB275_295.out _; (with_reducible repeat (first | refine blk_drewN ?_ _ | refine blk_drew ?_ | refine blk_alloc ?_ _)); exact BK275.out⟩, ⟨impl_gets.calls_q0⟩⟩
                    ·replace c36 := Bool.eq_false_iff.mpr c36
                     subst c36
                     replace H := ifn_ H
                     simp only [Option.some.injEq, Prod.mk.injEq] at H
                     obtain ⟨rfl, rfl⟩ := H
                     try go_wp2
                     replace HO_6 := Aside0.mk (Kd.R_drew HO_6.out)
                     replace HO_7 := Aside0.mk (Kd.R_drew HO_7.out)
                     replace BK265 := Aside0.mk (blk_drew BK265.out)
                     replace BK275 := Aside0.mk (blk_drew BK275.out)
                     replace HB := Aside0.mk (below_drew1 HB.out)
                     have p281 : 0 ≤ (x25_1 : Int) := of_decide_eq_true (g1_)
                     have q281 : x25_1 < ((rd_L2 l0_1 x35_2).length : Int) := of_decide_eq_true (g1_)
                     obtain ⟨ad281, e281, hx281_0⟩ := Kd.at_int HR279_0.out x25_1 p281 q281
                     have hw281_0 := hx281_0
                     cases e281
                     replace hx281_0 := cl_ HB hx281_0
                     replace p281 := eq_true p281
                     replace q281 := eq_true q281
                     obtain ⟨Ao67, co67, eo67⟩ := Kd.R_slice HO_6.out
                     (first | subst eo67 | (injection eo67 with f1_ f2_ f3_; have f4_ := f1_.symm; have f5_ := f3_.symm; clear f1_ f2_ f3_; subst f4_; subst f5_))
                     have p282 : 0 ≤ (x35_2 : Int) := of_decide_eq_true (g1_)
                     have q282 : x35_2 < (t266.length : Int) := of_decide_eq_true (g1_)
                     obtain ⟨ad282, e282, hx282_0⟩ := Kd.at_int (Kd.R_reads' HO_6.out).2.2 x35_2 p282 q282
                     cases e282
                     replace p282 := eq_true p282
                     replace q282 := eq_true q282
                     refine start_ (n := 15) (S := fun w' => w'.cell? (ad281.add (x25_1).toNat) = some (.int .i64 (rd (rd_L2 l0_1 x35_2) x25_1)) ∧ w'.cell? (ad282.add (x35_2).toNat) = some (.int .i64 (rd t266 x35_2))) (ds := []) (tl_ 15 0) (g0_) rfl (g0_) ⟨((cl_ HB hw281_0).trans rfl), hx282_0⟩ (fun hHeld => ?_); refine with_tabW impl_gets.tab11 impl_gets.bits11 (fun HT_ HW_ => ?_)
                     generalize wc.drew = w66 at HO_6 HO_7 BK265 BK275 HB hx281_0 hx282_0 hHeld ⊢
                     refine pw_ 0 51 (tl_ 15 1) rfl rfl ?_
                     refine pw_ 1 52 (tl_ 15 3) rfl rfl ?_
                     refine pw_ 2 53 (tl_ 15 7) rfl rfl ?_
                     refine pw_ 4 55 (tl_ 15 23) rfl rfl ?_
                     refine pw_ 5 56 (tl_ 15 55) rfl rfl ?_
                     refine pw_ 6 57 (tl_ 15 119) rfl rfl ?_
                     refine tk0_ 3 54 (tl_ 15 127) rfl rfl hHeld ?_
                     refine tk0_ 7 58 (tl_ 15 255) rfl rfl hHeld ?_
                     refine join_ (σ := Nat) 2 (tl_ 15 8191) (fun s_ => [(59, .tuple #[.agg #[.int .i64 t283, .int .i64 t284], .bool t285]), (13, .pointer (some ⟨s_, 0, none⟩)), (50, .tuple #[.agg #[.int .i64 t283, .int .i64 t284], .bool t285]), (60, .agg #[.int .i64 t283, .int .i64 t284]), (61, .bool t285)]) (fun s_ w' => (w'.cell? (ad281.add (x25_1).toNat) = some (.int .i64 (rd (rd_L2 l0_1 x35_2) x25_1)) ∧ w'.cell? (ad282.add (x35_2).toNat) = some (.int .i64 (rd t266 x35_2))) ∧ (Kd.R (Kd.int .i64) 3 w' w.heap.size (fun _ => True) (.slice (some ad282) t266.length co67) t266) ∧ (Kd.R k36 36 w' w.heap.size (fun k_ => k_ ≠ gb275 ∧ k_ ≠ s_) u7 x7_1) ∧ (w'.heap[gb265]? = some (.cells #[.slice (some ad272) l0_0.length c0_0, .slice (some ad279) l0_1.length c0_1] 26 (0, 0))) ∧ (w'.heap[gb275]? = some (.cells #[.int .i64 x276000_2, .int .i64 x276001_2] 36 (0, 0))) ∧ (w'.heap[s_]? = some (.cells #[.int .i64 0, .int .i64 0] 36 (0, 0))) ∧ (w.heap.size ≤ s_) ∧ (w.heap.size ≤ s_) ∧ (gb265 ≠ s_) ∧ (s_ ≠ gb265) ∧ (gb275 ≠ s_) ∧ (s_ ≠ gb275) ∧ (Below w.heap.size w w')) ?_ ?_
                     rotate_left
                     ·intro hCont
                      refine two_ (i := 8) (j := 12) (Ni := some 59) (Nj := some 13) (tl_ 15 511) (tl_ 15 4351) rfl rfl rfl rfl (two_of HT_.out (g0_)) (by decide) (by decide) (fun K hK => ?_) (fun K hK => ?_)
                      ·skip
                       refine goes_ Try.func92 (g0_) rfl #[.int .i64 (rd (rd_L2 l0_1 x35_2) x25_1), .int .i64 (rd t266 x35_2)] (by rfl) rfl rfl (g2_) ?_
                       with_reducible refine (impl_lowest.calls kj21 (rd (rd_L2 l0_1 x35_2) x25_1) (rd t266 x35_2) t283 t284 t285 _ A31.out).mono ?_
                       rintro e w68 ⟨rfl, hb⟩
                       have HS1_ := (hb.cell (World.block_lt_of_cell? _ _ (hHeld.2))).trans (hHeld.2)
                       refine ⟨_, rfl, ?_⟩
                       replace HO_6 := Aside0.mk (Kd.R_below (uf1_ HO_6) hb)
                       replace HO_7 := Aside0.mk (Kd.R_below (uf1_ HO_7) hb)
                       replace BK265 := Aside0.mk (blk_below (g := gb265) (o := .cells #[.slice (some ad272) l0_0.length c0_0, .slice (some ad279) l0_1.length c0_1] 26 (0, 0)) (uf0_ BK265) hb)
                       replace BK275 := Aside0.mk (blk_below (g := gb275) (o := .cells #[.int .i64 x276000_2, .int .i64 x276001_2] 36 (0, 0)) (uf0_ BK275) hb)
                       replace HB := Aside0.mk (below_step (impl_gets.calls_q0) hb)
                       (try clear hb)
                       (try clear hk hi)
                       refine hK.out _ _ ⟨((cl_ HB hw281_0).trans rfl), HS1_⟩ (fun hHeld => ?_)
                       clear hK K
                       refine nm_ ?_
                       refine pw_ 9 50 (tl_ 15 1023) rfl rfl ?_
                       refine pw_ 10 60 (tl_ 15 2047) rfl rfl ?_
                       refine pw_ 11 61 (tl_ 15 4095) rfl rfl ?_
                       refine one_ (i := 12) (N := some 13) (tl_ 15 8191) rfl rfl (one_of HT_.out (g0_)) (by decide) (fun K hK => ?_)
                       refine box_step ?hg (N := 13) ?hd (cs := #[.int .i64 0, .int .i64 0]) (t := 36) ?hr ?_; (case hd => rfl); (case hg => rfl); (case hr => first | (go_simp; done) | (go_simp; rfl))
                       intro gb286 hg w69 hbox hb
                       have HS1_ := (hb.cell (World.block_lt_of_cell? _ _ (hHeld.2))).trans (hHeld.2)
                       replace HO_6 := Aside0.mk (Kd.R_below (uf1_ HO_6) hb)
                       replace HO_7 := Aside0.mk (Kd.R_below (Kd.R_elderB (uf1_ HO_7) gb286 (Nat.le_of_eq hg.symm)) hb)
                       have BK286 := Aside0.mk (hbox)
                       have GW286 := Aside0.mk ((g7_ : w.heap.size ≤ gb286))
                       have GE286 := Aside0.mk ((g7_ : w.heap.size ≤ gb286))
                       replace HB := Aside0.mk (below_step (impl_gets.calls_q0) hb)
                       have NB265_286 := Aside0.mk ((g20_ : gb265 ≠ gb286))
                       have NB286_265 := Aside0.mk ((g21_ : gb286 ≠ gb265))
                       replace BK265 := Aside0.mk (blk_below (g := gb265) (o := .cells #[.slice (some ad272) l0_0.length c0_0, .slice (some ad279) l0_1.length c0_1] 26 (0, 0)) (uf0_ BK265) hb)
                       have NB275_286 := Aside0.mk ((g22_ : gb275 ≠ gb286))
                       have NB286_275 := Aside0.mk ((g23_ : gb286 ≠ gb275))
                       replace BK275 := Aside0.mk (blk_below (g := gb275) (o := .cells #[.int .i64 x276000_2, .int .i64 x276001_2] 36 (0, 0)) (uf0_ BK275) hb)
                       clear hb hbox hg
                       refine hK.out _ _ ⟨((cl_ HB hw281_0).trans rfl), HS1_⟩ (fun hHeld => ?_)
                       clear hK K
                       refine nm_ ?_
                       exact norm_ (g8_) (hCont (gb286) _ ⟨hHeld, (uf1_ HO_6), (uf1_ HO_7), (uf0_ BK265), (uf0_ BK275), (uf0_ BK286), GW286.out, GE286.out, NB265_286.out, NB286_265.out, NB275_286.out, NB286_275.out, (impl_gets.calls_q0)⟩)
                      ·skip
                       refine box_step ?hg (N := 13) ?hd (cs := #[.int .i64 0, .int .i64 0]) (t := 36) ?hr ?_; (case hd => rfl); (case hg => rfl); (case hr => first | (go_simp; done) | (go_simp; rfl))
                       intro gb286 hg w68 hbox hb
                       have HS1_ := (hb.cell (World.block_lt_of_cell? _ _ (hHeld.2))).trans (hHeld.2)
                       replace HO_6 := Aside0.mk (Kd.R_below (uf1_ HO_6) hb)
                       replace HO_7 := Aside0.mk (Kd.R_below (Kd.R_elderB (uf1_ HO_7) gb286 (Nat.le_of_eq hg.symm)) hb)
                       have BK286 := Aside0.mk (hbox)
                       have GW286 := Aside0.mk ((g7_ : w.heap.size ≤ gb286))
                       have GE286 := Aside0.mk ((g7_ : w.heap.size ≤ gb286))
                       replace HB := Aside0.mk (below_step (impl_gets.calls_q0) hb)
                       have NB265_286 := Aside0.mk ((g20_ : gb265 ≠ gb286))
                       have NB286_265 := Aside0.mk ((g21_ : gb286 ≠ gb265))
                       replace BK265 := Aside0.mk (blk_below (g := gb265) (o := .cells #[.slice (some ad272) l0_0.length c0_0, .slice (some ad279) l0_1.length c0_1] 26 (0, 0)) (uf0_ BK265) hb)
                       have NB275_286 := Aside0.mk ((g22_ : gb275 ≠ gb286))
                       have NB286_275 := Aside0.mk ((g23_ : gb286 ≠ gb275))
                       replace BK275 := Aside0.mk (blk_below (g := gb275) (o := .cells #[.int .i64 x276000_2, .int .i64 x276001_2] 36 (0, 0)) (uf0_ BK275) hb)
                       clear hb hbox hg
                       refine hK.out _ _ ⟨((cl_ HB hw281_0).trans rfl), HS1_⟩ (fun hHeld => ?_)
                       clear hK K
                       refine nm_ ?_
                       refine one_ (i := 8) (N := some 59) (tl_ 15 4607) rfl rfl (one_of HT_.out (g0_)) (by decide) (fun K hK => ?_)
                       refine goes_ Try.func92 (g0_) rfl #[.int .i64 (rd (rd_L2 l0_1 x35_2) x25_1), .int .i64 (rd t266 x35_2)] (by rfl) rfl rfl (g2_) ?_
                       with_reducible refine (impl_lowest.calls kj21 (rd (rd_L2 l0_1 x35_2) x25_1) (rd t266 x35_2) t283 t284 t285 _ A31.out).mono ?_
                       rintro e w69 ⟨rfl, hb⟩
                       have HS1_ := (hb.cell (World.block_lt_of_cell? _ _ (hHeld.2))).trans (hHeld.2)
                       refine ⟨_, rfl, ?_⟩
                       replace HO_6 := Aside0.mk (Kd.R_below (uf1_ HO_6) hb)
                       replace HO_7 := Aside0.mk (Kd.R_below (uf1_ HO_7) hb)
                       replace BK265 := Aside0.mk (blk_below (g := gb265) (o := .cells #[.slice (some ad272) l0_0.length c0_0, .slice (some ad279) l0_1.length c0_1] 26 (0, 0)) (uf0_ BK265) hb)
                       replace BK275 := Aside0.mk (blk_below (g := gb275) (o := .cells #[.int .i64 x276000_2, .int .i64 x276001_2] 36 (0, 0)) (uf0_ BK275) hb)
                       replace BK286 := Aside0.mk (blk_below (g := gb286) (o := .cells #[.int .i64 0, .int .i64 0] 36 (0, 0)) (uf0_ BK286) hb)
                       replace HB := Aside0.mk (below_step (impl_gets.calls_q0) hb)
                       (try clear hb)
                       (try clear hk hi)
                       refine hK.out _ _ ⟨((cl_ HB hw281_0).trans rfl), HS1_⟩ (fun hHeld => ?_)
                       clear hK K
                       refine nm_ ?_
                       refine pw_ 9 50 (tl_ 15 5119) rfl rfl ?_
                       refine pw_ 10 60 (tl_ 15 6143) rfl rfl ?_
                       refine pw_ 11 61 (tl_ 15 8191) rfl rfl ?_
                       exact norm_ (g8_) (hCont (gb286) _ ⟨hHeld, (uf1_ HO_6), (uf1_ HO_7), (uf0_ BK265), (uf0_ BK275), (uf0_ BK286), GW286.out, GE286.out, NB265_286.out, NB286_265.out, NB275_286.out, NB286_275.out, (impl_gets.calls_q0)⟩)
                     rintro gb286 w70 ⟨hS_, h0_, h1_, h2_, h3_, h4_, h5_, h6_, h7_, h8_, h9_, h10_, h11_⟩
                     replace HO_6 : Aside0 (Kd.R (Kd.int .i64) 3 w70 w.heap.size (fun _ => True) (.slice (some ad282) t266.length co67) t266) := ⟨h0_⟩
                     replace HO_7 : Aside0 (Kd.R k36 36 w70 w.heap.size (fun k_ => k_ ≠ gb275 ∧ k_ ≠ gb286) u7 x7_1) := ⟨h1_⟩
                     replace BK265 : Aside0 (w70.heap[gb265]? = some (.cells #[.slice (some ad272) l0_0.length c0_0, .slice (some ad279) l0_1.length c0_1] 26 (0, 0))) := ⟨h2_⟩
                     replace BK275 : Aside0 (w70.heap[gb275]? = some (.cells #[.int .i64 x276000_2, .int .i64 x276001_2] 36 (0, 0))) := ⟨h3_⟩
                     have BK286 : Aside0 (w70.heap[gb286]? = some (.cells #[.int .i64 0, .int .i64 0] 36 (0, 0))) := ⟨h4_⟩
                     have GW286 : Aside0 (w.heap.size ≤ gb286) := ⟨h5_⟩
                     have GE286 : Aside0 (w.heap.size ≤ gb286) := ⟨h6_⟩
                     have NB265_286 : Aside0 (gb265 ≠ gb286) := ⟨h7_⟩
                     have NB286_265 : Aside0 (gb286 ≠ gb265) := ⟨h8_⟩
                     have NB275_286 : Aside0 (gb275 ≠ gb286) := ⟨h9_⟩
                     have NB286_275 : Aside0 (gb286 ≠ gb275) := ⟨h10_⟩
                     replace HB : Aside0 (Below w.heap.size w w70) := ⟨h11_⟩
                     clear h0_ h1_ h2_ h3_ h4_ h5_ h6_ h7_ h8_ h9_ h10_ h11_
                     have hHeld : w70.cell? (ad281.add (x25_1).toNat) = some (.int .i64 (rd (rd_L2 l0_1 x35_2) x25_1)) ∧ w70.cell? (ad282.add (x35_2).toNat) = some (.int .i64 (rd t266 x35_2)) := hS_
                     refine norm_ (a' := ?_) ?_ ?_
                     rotate_left
                     ·simp only [putAll, Act.put, List.setIfInBounds_toArray, List.set_cons_zero, List.set_cons_succ]
                      rfl
                     refine one_ (i := 13) (N := none) (tl_ 15 16383) rfl rfl (one_of HT_.out (g0_)) (by decide) (fun K hK => ?_)
                     have hs71 : w70.cell? ⟨gb286, 0, none⟩ = some (.int .i64 0) := (blk_cell BK286.out 0).trans rfl
                     have hfs71 := blk_frozen BK286.out 0
                     have hns71_0 := NB265_286.out
                     have hns71_1 := NB275_286.out
                     have hms71_0 := NB286_265.out
                     have hms71_1 := NB286_275.out
                     have hs72 : w70.cell? ⟨gb286, 1, none⟩ = some (.int .i64 0) := (blk_cell BK286.out 1).trans rfl
                     have hfs72 := blk_frozen BK286.out 1
                     have hns72_0 := NB265_286.out
                     have hns72_1 := NB275_286.out
                     have hms72_0 := NB286_265.out
                     have hms72_1 := NB286_275.out
                     refine skip_ (w1 := ?_) (by rfl) rfl ?_ ?_
                     rotate_left
                     ·go_simp
                      rfl
                     refine hK.out _ _ ⟨((cell_far (p := ⟨gb286, _, none⟩) (by first | exact Nat.ne_of_lt (Nat.lt_of_lt_of_le (by have := World.block_lt_of_cell? _ _ hw281_0; first | rwa [add_block] at this | exact this) GW286.out) | (rw [add_block]; exact Nat.ne_of_lt (Nat.lt_of_lt_of_le (by have := World.block_lt_of_cell? _ _ hw281_0; first | rwa [add_block] at this | exact this) GW286.out)) | (show (Addr.add _ _).block ≠ _; rw [add_block]; exact Nat.ne_of_lt (Nat.lt_of_lt_of_le (by have := World.block_lt_of_cell? _ _ hw281_0; first | rwa [add_block] at this | exact this) GW286.out)) | (dsimp only; exact Nat.ne_of_lt (Nat.lt_of_lt_of_le (by have := World.block_lt_of_cell? _ _ hw281_0; first | rwa [add_block] at this | exact this) GW286.out))) _).trans (((cell_far (p := ⟨gb286, _, none⟩) (by first | exact Nat.ne_of_lt (Nat.lt_of_lt_of_le (by have := World.block_lt_of_cell? _ _ hw281_0; first | rwa [add_block] at this | exact this) GW286.out) | (rw [add_block]; exact Nat.ne_of_lt (Nat.lt_of_lt_of_le (by have := World.block_lt_of_cell? _ _ hw281_0; first | rwa [add_block] at this | exact this) GW286.out)) | (show (Addr.add _ _).block ≠ _; rw [add_block]; exact Nat.ne_of_lt (Nat.lt_of_lt_of_le (by have := World.block_lt_of_cell? _ _ hw281_0; first | rwa [add_block] at this | exact this) GW286.out)) | (dsimp only; exact Nat.ne_of_lt (Nat.lt_of_lt_of_le (by have := World.block_lt_of_cell? _ _ hw281_0; first | rwa [add_block] at this | exact this) GW286.out))) _).trans (hHeld.1)))), ((cell_far (p := ⟨gb286, _, none⟩) (g52_) _).trans (((cell_far (p := ⟨gb286, _, none⟩) (g52_) _).trans (hHeld.2))))⟩ (fun hHeld => ?_)
                     clear hK K
                     refine pw_ 14 14 (tl_ 15 32767) rfl rfl ?_
                     refine done_ (done_of HT_.out (g0_)) ?_
                     try go_wp2
                     have n0_ : Aside0 (Kd.R (Kd.int .i64) 3 ((w70.setCell ⟨gb286, 0, none⟩ (.int .i64 t283)).setCell ⟨gb286, 1, none⟩ (.int .i64 t284)) w.heap.size (fun _ => True) (.slice (some ad282) t266.length co67) t266) := ⟨g126_⟩
                     have n1_ : Aside0 (Kd.R k36 36 ((w70.setCell ⟨gb286, 0, none⟩ (.int .i64 t283)).setCell ⟨gb286, 1, none⟩ (.int .i64 t284)) w.heap.size (fun k_ => k_ ≠ gb275 ∧ k_ ≠ gb286) u7 x7_1) := ⟨g127_⟩
                     have n2_ : Aside0 (((w70.setCell ⟨gb286, 0, none⟩ (.int .i64 t283)).setCell ⟨gb286, 1, none⟩ (.int .i64 t284)).heap[gb265]? = some (.cells #[.slice (some ad272) l0_0.length c0_0, .slice (some ad279) l0_1.length c0_1] 26 (0, 0))) := ⟨g128_⟩
                     have n3_ : Aside0 (((w70.setCell ⟨gb286, 0, none⟩ (.int .i64 t283)).setCell ⟨gb286, 1, none⟩ (.int .i64 t284)).heap[gb275]? = some (.cells #[.int .i64 x276000_2, .int .i64 x276001_2] 36 (0, 0))) := ⟨g129_⟩
                     have n4_ : Aside0 (((w70.setCell ⟨gb286, 0, none⟩ (.int .i64 t283)).setCell ⟨gb286, 1, none⟩ (.int .i64 t284)).heap[gb286]? = some (.cells #[.int .i64 t283, .int .i64 t284] 36 (0, 0))) := ⟨g130_⟩
                     have n5_ : Aside0 (Below w.heap.size w ((w70.setCell ⟨gb286, 0, none⟩ (.int .i64 t283)).setCell ⟨gb286, 1, none⟩ (.int .i64 t284))) := ⟨impl_gets.calls_q0⟩
                     (try clear HO_6)
                     (try clear HO_7)
                     (try clear BK265)
                     (try clear BK275)
                     (try clear BK286)
                     (try clear HB)
                     generalize ((w70.setCell ⟨gb286, 0, none⟩ (.int .i64 t283)).setCell ⟨gb286, 1, none⟩ (.int .i64 t284)) = w73 at n0_ n1_ n2_ n3_ n4_ n5_ ⊢
                     have HO_6 := n0_
                     have HO_7 := n1_
                     have BK265 := n2_
                     have BK275 := n3_
                     have BK286 := n4_
                     have HB := n5_
                     clear n0_ n1_ n2_ n3_ n4_ n5_
                     replace HO_6 := Aside0.mk (Kd.R_drew HO_6.out)
                     replace HO_7 := Aside0.mk (Kd.R_drew HO_7.out)
                     replace BK265 := Aside0.mk (blk_drew BK265.out)
                     replace BK275 := Aside0.mk (blk_drew BK275.out)
                     replace BK286 := Aside0.mk (blk_drew BK286.out)
                     replace HB := Aside0.mk (below_drew1 HB.out)
                     have p287 : 0 ≤ (x35_2 : Int) := of_decide_eq_true (g1_)
                     have q287 : x35_2 < (l1.length : Int) := of_decide_eq_true (g1_)
                     obtain ⟨ad287, e287, hx287_0, hx287_1⟩ := at_T36 HR1.out x35_2 p287 q287
                     have hw287_1 := hx287_1
                     have hw287_0 := hx287_0
                     cases e287
                     replace hx287_0 := cl_ HB hx287_0
                     replace hx287_1 := cl_ HB hx287_1
                     replace p287 := eq_true p287
                     replace q287 := eq_true q287
                     refine start_ (n := 12) (S := fun w' => w'.cell? ⟨gb286, 0, none⟩ = some (.int .i64 t283) ∧ w'.cell? ⟨gb286, 1, none⟩ = some (.int .i64 t284) ∧ w'.cell? (ad287.add ((x35_2).toNat * 2)) = some (.int .i64 ((rd_T36 l1 x35_2).f0)) ∧ w'.cell? ⟨(ad287.add ((x35_2).toNat * 2)).block, (ad287.add ((x35_2).toNat * 2)).off + 1, none⟩ = some (.int .i64 ((rd_T36 l1 x35_2).f1))) (ds := []) (tl_ 12 0) (g0_) rfl (g0_) ⟨(blk_cell BK286.out 0).trans rfl, (blk_cell BK286.out 1).trans rfl, ((cl_ HB hw287_0).trans rfl), ((cl_ HB hw287_1).trans rfl)⟩ (fun hHeld => ?_); refine with_tabW impl_gets.tab12 impl_gets.bits12 (fun HT_ HW_ => ?_)
                     generalize w73.drew = w74 at HO_6 HO_7 BK265 BK275 BK286 HB hx287_0 hx287_1 hHeld ⊢
                     refine pw_ 0 63 (tl_ 12 1) rfl rfl ?_
                     refine pw_ 1 64 (tl_ 12 3) rfl rfl ?_
                     refine pw_ 2 65 (tl_ 12 7) rfl rfl ?_
                     refine tk3_ 3 66 (tl_ 12 15) rfl rfl hHeld ?_
                     refine tk3_ 4 67 (tl_ 12 31) rfl rfl hHeld ?_
                     refine join_ (σ := Nat) 2 (tl_ 12 1023) (fun s_ => [(68, .tuple #[.agg #[.int .i64 t288, .int .i64 t289], .bool true]), (15, .pointer (some ⟨s_, 0, none⟩)), (62, .tuple #[.agg #[.int .i64 t288, .int .i64 t289], .bool true]), (69, .agg #[.int .i64 t288, .int .i64 t289]), (70, .bool true)]) (fun s_ w' => (w'.cell? ⟨gb286, 0, none⟩ = some (.int .i64 t283) ∧ w'.cell? ⟨gb286, 1, none⟩ = some (.int .i64 t284) ∧ w'.cell? (ad287.add ((x35_2).toNat * 2)) = some (.int .i64 ((rd_T36 l1 x35_2).f0)) ∧ w'.cell? ⟨(ad287.add ((x35_2).toNat * 2)).block, (ad287.add ((x35_2).toNat * 2)).off + 1, none⟩ = some (.int .i64 ((rd_T36 l1 x35_2).f1))) ∧ (Kd.R (Kd.int .i64) 3 w' w.heap.size (fun _ => True) (.slice (some ad282) t266.length co67) t266) ∧ (Kd.R k36 36 w' w.heap.size (fun k_ => k_ ≠ gb275 ∧ k_ ≠ gb286 ∧ k_ ≠ s_) u7 x7_1) ∧ (w'.heap[gb265]? = some (.cells #[.slice (some ad272) l0_0.length c0_0, .slice (some ad279) l0_1.length c0_1] 26 (0, 0))) ∧ (w'.heap[gb275]? = some (.cells #[.int .i64 x276000_2, .int .i64 x276001_2] 36 (0, 0))) ∧ (w'.heap[gb286]? = some (.cells #[.int .i64 t283, .int .i64 t284] 36 (0, 0))) ∧ (w'.heap[s_]? = some (.cells #[.int .i64 0, .int .i64 0] 36 (0, 0))) ∧ (w.heap.size ≤ s_) ∧ (w.heap.size ≤ s_) ∧ (gb265 ≠ s_) ∧ (s_ ≠ gb265) ∧ (gb275 ≠ s_) ∧ (s_ ≠ gb275) ∧ (gb286 ≠ s_) ∧ (s_ ≠ gb286) ∧ (Below w.heap.size w w')) ?_ ?_
                     rotate_left
                     ·intro hCont
                      refine two_ (i := 5) (j := 9) (Ni := some 68) (Nj := some 15) (tl_ 12 63) (tl_ 12 543) rfl rfl rfl rfl (two_of HT_.out (g0_)) (by decide) (by decide) (fun K hK => ?_) (fun K hK => ?_)
                      ·skip
                       refine goes_ Try.func93 (g0_) rfl #[.agg #[.int .i64 ((rd_T36 l1 x35_2).f0), .int .i64 ((rd_T36 l1 x35_2).f1)], .agg #[.int .i64 t283, .int .i64 t284]] (by rfl) rfl rfl (g2_) ?_
                       with_reducible refine (impl_times.calls kj21 ((rd_T36 l1 x35_2).f0) ((rd_T36 l1 x35_2).f1) t283 t284 t288 t289 true _ A33.out).mono ?_
                       rintro e w75 ⟨rfl, hb⟩
                       refine ⟨_, rfl, ?_⟩
                       replace HO_6 := Aside0.mk (Kd.R_below (uf1_ HO_6) hb)
                       replace HO_7 := Aside0.mk (Kd.R_below (uf1_ HO_7) hb)
                       replace BK265 := Aside0.mk (blk_below (g := gb265) (o := .cells #[.slice (some ad272) l0_0.length c0_0, .slice (some ad279) l0_1.length c0_1] 26 (0, 0)) (uf0_ BK265) hb)
                       replace BK275 := Aside0.mk (blk_below (g := gb275) (o := .cells #[.int .i64 x276000_2, .int .i64 x276001_2] 36 (0, 0)) (uf0_ BK275) hb)
                       replace BK286 := Aside0.mk (blk_below (g := gb286) (o := .cells #[.int .i64 t283, .int .i64 t284] 36 (0, 0)) (uf0_ BK286) hb)
                       replace HB := Aside0.mk (below_step (impl_gets.calls_q0) hb)
                       (try clear hb)
                       (try clear hk hi)
                       refine hK.out _ _ ⟨(blk_cell BK286.out 0).trans rfl, (blk_cell BK286.out 1).trans rfl, ((cl_ HB hw287_0).trans rfl), ((cl_ HB hw287_1).trans rfl)⟩ (fun hHeld => ?_)
                       clear hK K
                       refine nm_ ?_
                       refine pw_ 6 62 (tl_ 12 127) rfl rfl ?_
                       refine pw_ 7 69 (tl_ 12 255) rfl rfl ?_
                       refine pw_ 8 70 (tl_ 12 511) rfl rfl ?_
                       refine one_ (i := 9) (N := some 15) (tl_ 12 1023) rfl rfl (one_of HT_.out (g0_)) (by decide) (fun K hK => ?_)
                       refine box_step ?hg (N := 15) ?hd (cs := #[.int .i64 0, .int .i64 0]) (t := 36) ?hr ?_; (case hd => rfl); (case hg => rfl); (case hr => first | (go_simp; done) | (go_simp; rfl))
                       intro gb291 hg w76 hbox hb
                       replace HO_6 := Aside0.mk (Kd.R_below (uf1_ HO_6) hb)
                       replace HO_7 := Aside0.mk (Kd.R_below (Kd.R_elderB (uf1_ HO_7) gb291 (Nat.le_of_eq hg.symm)) hb)
                       have BK291 := Aside0.mk (hbox)
                       have GW291 := Aside0.mk ((g7_ : w.heap.size ≤ gb291))
                       have GE291 := Aside0.mk ((g7_ : w.heap.size ≤ gb291))
                       replace HB := Aside0.mk (below_step (impl_gets.calls_q0) hb)
                       have NB265_291 := Aside0.mk ((g20_ : gb265 ≠ gb291))
                       have NB291_265 := Aside0.mk ((g21_ : gb291 ≠ gb265))
                       replace BK265 := Aside0.mk (blk_below (g := gb265) (o := .cells #[.slice (some ad272) l0_0.length c0_0, .slice (some ad279) l0_1.length c0_1] 26 (0, 0)) (uf0_ BK265) hb)
                       have NB275_291 := Aside0.mk ((g22_ : gb275 ≠ gb291))
                       have NB291_275 := Aside0.mk ((g23_ : gb291 ≠ gb275))
                       replace BK275 := Aside0.mk (blk_below (g := gb275) (o := .cells #[.int .i64 x276000_2, .int .i64 x276001_2] 36 (0, 0)) (uf0_ BK275) hb)
                       have NB286_291 := Aside0.mk ((g37_ : gb286 ≠ gb291))
                       have NB291_286 := Aside0.mk ((g38_ : gb291 ≠ gb286))
                       replace BK286 := Aside0.mk (blk_below (g := gb286) (o := .cells #[.int .i64 t283, .int .i64 t284] 36 (0, 0)) (uf0_ BK286) hb)
                       clear hb hbox hg
                       refine hK.out _ _ ⟨(blk_cell BK286.out 0).trans rfl, (blk_cell BK286.out 1).trans rfl, ((cl_ HB hw287_0).trans rfl), ((cl_ HB hw287_1).trans rfl)⟩ (fun hHeld => ?_)
                       clear hK K
                       refine nm_ ?_
                       exact norm_ (g8_) (hCont (gb291) _ ⟨hHeld, (uf1_ HO_6), (g53_), (uf0_ BK265), (uf0_ BK275), (uf0_ BK286), (uf0_ BK291), GW291.out, GE291.out, NB265_291.out, NB291_265.out, NB275_291.out, NB291_275.out, NB286_291.out, NB291_286.out, (impl_gets.calls_q0)⟩)
                      ·skip
                       refine box_step ?hg (N := 15) ?hd (cs := #[.int .i64 0, .int .i64 0]) (t := 36) ?hr ?_; (case hd => rfl); (case hg => rfl); (case hr => first | (go_simp; done) | (go_simp; rfl))
                       intro gb291 hg w75 hbox hb
                       replace HO_6 := Aside0.mk (Kd.R_below (uf1_ HO_6) hb)
                       replace HO_7 := Aside0.mk (Kd.R_below (Kd.R_elderB (uf1_ HO_7) gb291 (Nat.le_of_eq hg.symm)) hb)
                       have BK291 := Aside0.mk (hbox)
                       have GW291 := Aside0.mk ((g7_ : w.heap.size ≤ gb291))
                       have GE291 := Aside0.mk ((g7_ : w.heap.size ≤ gb291))
                       replace HB := Aside0.mk (below_step (impl_gets.calls_q0) hb)
                       have NB265_291 := Aside0.mk ((g20_ : gb265 ≠ gb291))
                       have NB291_265 := Aside0.mk ((g21_ : gb291 ≠ gb265))
                       replace BK265 := Aside0.mk (blk_below (g := gb265) (o := .cells #[.slice (some ad272) l0_0.length c0_0, .slice (some ad279) l0_1.length c0_1] 26 (0, 0)) (uf0_ BK265) hb)
                       have NB275_291 := Aside0.mk ((g22_ : gb275 ≠ gb291))
                       have NB291_275 := Aside0.mk ((g23_ : gb291 ≠ gb275))
                       replace BK275 := Aside0.mk (blk_below (g := gb275) (o := .cells #[.int .i64 x276000_2, .int .i64 x276001_2] 36 (0, 0)) (uf0_ BK275) hb)
                       have NB286_291 := Aside0.mk ((g37_ : gb286 ≠ gb291))
                       have NB291_286 := Aside0.mk ((g38_ : gb291 ≠ gb286))
                       replace BK286 := Aside0.mk (blk_below (g := gb286) (o := .cells #[.int .i64 t283, .int .i64 t284] 36 (0, 0)) (uf0_ BK286) hb)
                       clear hb hbox hg
                       refine hK.out _ _ ⟨(blk_cell BK286.out 0).trans rfl, (blk_cell BK286.out 1).trans rfl, ((cl_ HB hw287_0).trans rfl), ((cl_ HB hw287_1).trans rfl)⟩ (fun hHeld => ?_)
                       clear hK K
                       refine nm_ ?_
                       refine one_ (i := 5) (N := some 68) (tl_ 12 575) rfl rfl (one_of HT_.out (g0_)) (by decide) (fun K hK => ?_)
                       refine goes_ Try.func93 (g0_) rfl #[.agg #[.int .i64 ((rd_T36 l1 x35_2).f0), .int .i64 ((rd_T36 l1 x35_2).f1)], .agg #[.int .i64 t283, .int .i64 t284]] (by rfl) rfl rfl (g2_) ?_
                       with_reducible refine (impl_times.calls kj21 ((rd_T36 l1 x35_2).f0) ((rd_T36 l1 x35_2).f1) t283 t284 t288 t289 true _ A33.out).mono ?_
                       rintro e w76 ⟨rfl, hb⟩
                       refine ⟨_, rfl, ?_⟩
                       replace HO_6 := Aside0.mk (Kd.R_below (uf1_ HO_6) hb)
                       replace HO_7 := Aside0.mk (Kd.R_below (uf1_ HO_7) hb)
                       replace BK265 := Aside0.mk (blk_below (g := gb265) (o := .cells #[.slice (some ad272) l0_0.length c0_0, .slice (some ad279) l0_1.length c0_1] 26 (0, 0)) (uf0_ BK265) hb)
                       replace BK275 := Aside0.mk (blk_below (g := gb275) (o := .cells #[.int .i64 x276000_2, .int .i64 x276001_2] 36 (0, 0)) (uf0_ BK275) hb)
                       replace BK286 := Aside0.mk (blk_below (g := gb286) (o := .cells #[.int .i64 t283, .int .i64 t284] 36 (0, 0)) (uf0_ BK286) hb)
                       replace BK291 := Aside0.mk (blk_below (g := gb291) (o := .cells #[.int .i64 0, .int .i64 0] 36 (0, 0)) (uf0_ BK291) hb)
                       replace HB := Aside0.mk (below_step (impl_gets.calls_q0) hb)
                       (try clear hb)
                       (try clear hk hi)
                       refine hK.out _ _ ⟨(blk_cell BK286.out 0).trans rfl, (blk_cell BK286.out 1).trans rfl, ((cl_ HB hw287_0).trans rfl), ((cl_ HB hw287_1).trans rfl)⟩ (fun hHeld => ?_)
                       clear hK K
                       refine nm_ ?_
                       refine pw_ 6 62 (tl_ 12 639) rfl rfl ?_
                       refine pw_ 7 69 (tl_ 12 767) rfl rfl ?_
                       refine pw_ 8 70 (tl_ 12 1023) rfl rfl ?_
                       exact norm_ (g8_) (hCont (gb291) _ ⟨hHeld, (uf1_ HO_6), (g53_), (uf0_ BK265), (uf0_ BK275), (uf0_ BK286), (uf0_ BK291), GW291.out, GE291.out, NB265_291.out, NB291_265.out, NB275_291.out, NB291_275.out, NB286_291.out, NB291_286.out, (impl_gets.calls_q0)⟩)
                     rintro gb291 w77 ⟨hS_, h0_, h1_, h2_, h3_, h4_, h5_, h6_, h7_, h8_, h9_, h10_, h11_, h12_, h13_, h14_⟩
                     replace HO_6 : Aside0 (Kd.R (Kd.int .i64) 3 w77 w.heap.size (fun _ => True) (.slice (some ad282) t266.length co67) t266) := ⟨h0_⟩
                     replace HO_7 : Aside0 (Kd.R k36 36 w77 w.heap.size (fun k_ => k_ ≠ gb275 ∧ k_ ≠ gb286 ∧ k_ ≠ gb291) u7 x7_1) := ⟨h1_⟩
                     replace BK265 : Aside0 (w77.heap[gb265]? = some (.cells #[.slice (some ad272) l0_0.length c0_0, .slice (some ad279) l0_1.length c0_1] 26 (0, 0))) := ⟨h2_⟩
                     replace BK275 : Aside0 (w77.heap[gb275]? = some (.cells #[.int .i64 x276000_2, .int .i64 x276001_2] 36 (0, 0))) := ⟨h3_⟩
                     replace BK286 : Aside0 (w77.heap[gb286]? = some (.cells #[.int .i64 t283, .int .i64 t284] 36 (0, 0))) := ⟨h4_⟩
                     have BK291 : Aside0 (w77.heap[gb291]? = some (.cells #[.int .i64 0, .int .i64 0] 36 (0, 0))) := ⟨h5_⟩
                     have GW291 : Aside0 (w.heap.size ≤ gb291) := ⟨h6_⟩
                     have GE291 : Aside0 (w.heap.size ≤ gb291) := ⟨h7_⟩
                     have NB265_291 : Aside0 (gb265 ≠ gb291) := ⟨h8_⟩
                     have NB291_265 : Aside0 (gb291 ≠ gb265) := ⟨h9_⟩
                     have NB275_291 : Aside0 (gb275 ≠ gb291) := ⟨h10_⟩
                     have NB291_275 : Aside0 (gb291 ≠ gb275) := ⟨h11_⟩
                     have NB286_291 : Aside0 (gb286 ≠ gb291) := ⟨h12_⟩
                     have NB291_286 : Aside0 (gb291 ≠ gb286) := ⟨h13_⟩
                     replace HB : Aside0 (Below w.heap.size w w77) := ⟨h14_⟩
                     clear h0_ h1_ h2_ h3_ h4_ h5_ h6_ h7_ h8_ h9_ h10_ h11_ h12_ h13_ h14_
                     have hHeld : w77.cell? ⟨gb286, 0, none⟩ = some (.int .i64 t283) ∧ w77.cell? ⟨gb286, 1, none⟩ = some (.int .i64 t284) ∧ w77.cell? (ad287.add ((x35_2).toNat * 2)) = some (.int .i64 ((rd_T36 l1 x35_2).f0)) ∧ w77.cell? ⟨(ad287.add ((x35_2).toNat * 2)).block, (ad287.add ((x35_2).toNat * 2)).off + 1, none⟩ = some (.int .i64 ((rd_T36 l1 x35_2).f1)) := hS_
                     refine norm_ (a' := ?_) ?_ ?_
                     rotate_left
                     ·simp only [putAll, Act.put, List.setIfInBounds_toArray, List.set_cons_zero, List.set_cons_succ]
                      rfl
                     refine one_ (i := 10) (N := none) (tl_ 12 2047) rfl rfl (one_of HT_.out (g0_)) (by decide) (fun K hK => ?_)
                     have hs78 : w77.cell? ⟨gb291, 0, none⟩ = some (.int .i64 0) := (blk_cell BK291.out 0).trans rfl
                     have hfs78 := blk_frozen BK291.out 0
                     have hns78_0 := NB265_291.out
                     have hns78_1 := NB275_291.out
                     have hns78_2 := NB286_291.out
                     have hms78_0 := NB291_265.out
                     have hms78_1 := NB291_275.out
                     have hms78_2 := NB291_286.out
                     have hs79 : w77.cell? ⟨gb291, 1, none⟩ = some (.int .i64 0) := (blk_cell BK291.out 1).trans rfl
                     have hfs79 := blk_frozen BK291.out 1
                     have hns79_0 := NB265_291.out
                     have hns79_1 := NB275_291.out
                     have hns79_2 := NB286_291.out
                     have hms79_0 := NB291_265.out
                     have hms79_1 := NB291_275.out
                     have hms79_2 := NB291_286.out
                     refine skip_ (w1 := ?_) (by rfl) rfl ?_ ?_
                     rotate_left
                     ·go_simp
                      rfl
                     refine hK.out _ _ ⟨((cell_far (p := ⟨gb291, _, none⟩) NB286_291.out _).trans (((cell_far (p := ⟨gb291, _, none⟩) NB286_291.out _).trans (hHeld.1)))), ((cell_far (p := ⟨gb291, _, none⟩) NB286_291.out _).trans (((cell_far (p := ⟨gb291, _, none⟩) NB286_291.out _).trans (hHeld.2.1)))), ((cell_far (p := ⟨gb291, _, none⟩) (by first | exact Nat.ne_of_lt (Nat.lt_of_lt_of_le (by have := World.block_lt_of_cell? _ _ hw287_0; first | rwa [add_block] at this | exact this) GW291.out) | (rw [add_block]; exact Nat.ne_of_lt (Nat.lt_of_lt_of_le (by have := World.block_lt_of_cell? _ _ hw287_0; first | rwa [add_block] at this | exact this) GW291.out)) | (show (Addr.add _ _).block ≠ _; rw [add_block]; exact Nat.ne_of_lt (Nat.lt_of_lt_of_le (by have := World.block_lt_of_cell? _ _ hw287_0; first | rwa [add_block] at this | exact this) GW291.out)) | (dsimp only; exact Nat.ne_of_lt (Nat.lt_of_lt_of_le (by have := World.block_lt_of_cell? _ _ hw287_0; first | rwa [add_block] at this | exact this) GW291.out))) _).trans (((cell_far (p := ⟨gb291, _, none⟩) (by first | exact Nat.ne_of_lt (Nat.lt_of_lt_of_le (by have := World.block_lt_of_cell? _ _ hw287_0; first | rwa [add_block] at this | exact this) GW291.out) | (rw [add_block]; exact Nat.ne_of_lt (Nat.lt_of_lt_of_le (by have := World.block_lt_of_cell? _ _ hw287_0; first | rwa [add_block] at this | exact this) GW291.out)) | (show (Addr.add _ _).block ≠ _; rw [add_block]; exact Nat.ne_of_lt (Nat.lt_of_lt_of_le (by have := World.block_lt_of_cell? _ _ hw287_0; first | rwa [add_block] at this | exact this) GW291.out)) | (dsimp only; exact Nat.ne_of_lt (Nat.lt_of_lt_of_le (by have := World.block_lt_of_cell? _ _ hw287_0; first | rwa [add_block] at this | exact this) GW291.out))) _).trans (hHeld.2.2.1)))), ((cell_far (p := ⟨gb291, _, none⟩) (by first | exact Nat.ne_of_lt (Nat.lt_of_lt_of_le (by have := World.block_lt_of_cell? _ _ hw287_1; first | rwa [add_block] at this | exact this) GW291.out) | (rw [add_block]; exact Nat.ne_of_lt (Nat.lt_of_lt_of_le (by have := World.block_lt_of_cell? _ _ hw287_1; first | rwa [add_block] at this | exact this) GW291.out)) | (show (Addr.add _ _).block ≠ _; rw [add_block]; exact Nat.ne_of_lt (Nat.lt_of_lt_of_le (by have := World.block_lt_of_cell? _ _ hw287_1; first | rwa [add_block] at this | exact this) GW291.out)) | (dsimp only; exact Nat.ne_of_lt (Nat.lt_of_lt_of_le (by have := World.block_lt_of_cell? _ _ hw287_1; first | rwa [add_block] at this | exact this) GW291.out))) _).trans (((cell_far (p := ⟨gb291, _, none⟩) (by first | exact Nat.ne_of_lt (Nat.lt_of_lt_of_le (by have := World.block_lt_of_cell? _ _ hw287_1; first | rwa [add_block] at this | exact this) GW291.out) | (rw [add_block]; exact Nat.ne_of_lt (Nat.lt_of_lt_of_le (by have := World.block_lt_of_cell? _ _ hw287_1; first | rwa [add_block] at this | exact this) GW291.out)) | (show (Addr.add _ _).block ≠ _; rw [add_block]; exact Nat.ne_of_lt (Nat.lt_of_lt_of_le (by have := World.block_lt_of_cell? _ _ hw287_1; first | rwa [add_block] at this | exact this) GW291.out)) | (dsimp only; exact Nat.ne_of_lt (Nat.lt_of_lt_of_le (by have := World.block_lt_of_cell? _ _ hw287_1; first | rwa [add_block] at this | exact this) GW291.out))) _).trans (hHeld.2.2.2))))⟩ (fun hHeld => ?_)
                     clear hK K
                     refine pw_ 11 16 (tl_ 12 4095) rfl rfl ?_
                     refine done_ (done_of HT_.out (g0_)) ?_
                     have hnb80 := NB275_265.out
                     have hnc80 := NB265_275.out
                     have hnb81 := NB275_286.out
                     have hnc81 := NB286_275.out
                     have hnb82 := NB275_291.out
                     have hnc82 := NB291_275.out
                     obtain ⟨hcz83_0, hcz83_1, hfz83_0, hfz83_1⟩ := blk2_ BK275
                     have hnb84 := NB291_265.out
                     have hnc84 := NB265_291.out
                     have hnb85 := NB291_286.out
                     have hnc85 := NB286_291.out
                     obtain ⟨hcz86_0, hcz86_1, hfz86_0, hfz86_1⟩ := blk2_ BK291
                     try go_wp2_with (first | ((with_reducible refine gate_callee (f := 81) rfl ?_); refine goesL_ (some 74) rfl rfl Try.func81 k_ rfl #[.agg #[.int .i64 x276000_2, .int .i64 x276001_2], .agg #[.int .i64 t288, .int .i64 t289]] rfl (g2_) ?_; (with_reducible refine (impl_plus.calls kj21 x276000_2 x276001_2 t288 t289 t292 t293 false _ A34.out).mono ?_); rintro e w87 ⟨rfl, hb⟩; refine ⟨_, rfl, ?_⟩; replace HO_6 := Aside0.mk (Kd.R_below (g131_) hb); replace HO_7 := Aside0.mk (Kd.R_below (g132_) hb); replace BK265 := Aside0.mk (blk_below (g := gb265) (o := .cells #[.slice (some ad272) l0_0.length c0_0, .slice (some ad279) l0_1.length c0_1] 26 (0, 0)) (g133_) hb); replace BK275 := Aside0.mk (blk_below (g := gb275) (o := .cells #[.int .i64 x276000_2, .int .i64 x276001_2] 36 (0, 0)) (g134_) hb); replace BK286 := Aside0.mk (blk_below (g := gb286) (o := .cells #[.int .i64 t283, .int .i64 t284] 36 (0, 0)) (g135_) hb); replace BK291 := Aside0.mk (blk_below (g := gb291) (o := .cells #[.int .i64 t288, .int .i64 t289] 36 (0, 0)) (g136_) hb); replace HB := Aside0.mk (below_step (impl_gets.calls_q0) hb); (try clear hb); (try clear hk hi)) | ((with_reducible refine gate_dst (N := 17) rfl ?_); refine bx_ (N := 17) #[.int .i64 0, .int .i64 0] 36 ?_; intro gb295 hg w88 hbox hb; replace HO_6 := Aside0.mk (Kd.R_below (uf1_ HO_6) hb); replace HO_7 := Aside0.mk (Kd.R_below (Kd.R_elderB (uf1_ HO_7) gb295 (Nat.le_of_eq hg.symm)) hb); have BK295 := Aside0.mk (hbox); have GW295 := Aside0.mk ((g7_ : w.heap.size ≤ gb295)); have GE295 := Aside0.mk ((g7_ : w.heap.size ≤ gb295)); replace HB := Aside0.mk (below_step (impl_gets.calls_q0) hb); have NB265_295 := Aside0.mk ((g20_ : gb265 ≠ gb295)); have NB295_265 := Aside0.mk ((g21_ : gb295 ≠ gb265)); replace BK265 := Aside0.mk (blk_below (g := gb265) (o := .cells #[.slice (some ad272) l0_0.length c0_0, .slice (some ad279) l0_1.length c0_1] 26 (0, 0)) (uf0_ BK265) hb); have NB275_295 := Aside0.mk ((g22_ : gb275 ≠ gb295)); have NB295_275 := Aside0.mk ((g23_ : gb295 ≠ gb275)); replace BK275 := Aside0.mk (blk_below (g := gb275) (o := .cells #[.int .i64 x276000_2, .int .i64 x276001_2] 36 (0, 0)) (uf0_ BK275) hb); have NB286_295 := Aside0.mk ((g37_ : gb286 ≠ gb295)); have NB295_286 := Aside0.mk ((g38_ : gb295 ≠ gb286)); replace BK286 := Aside0.mk (blk_below (g := gb286) (o := .cells #[.int .i64 t283, .int .i64 t284] 36 (0, 0)) (uf0_ BK286) hb); have NB291_295 := Aside0.mk ((g137_ : gb291 ≠ gb295)); have NB295_291 := Aside0.mk ((g138_ : gb295 ≠ gb291)); replace BK291 := Aside0.mk (blk_below (g := gb291) (o := .cells #[.int .i64 t288, .int .i64 t289] 36 (0, 0)) (uf0_ BK291) hb); clear hb hbox hg; have hnb89 := NB295_265.out; have hnc89 := NB265_295.out; have hnb90 := NB295_275.out; have hnc90 := NB275_295.out; have hnb91 := NB295_286.out; have hnc91 := NB286_295.out; have hnb92 := NB295_291.out; have hnc92 := NB291_295.out; obtain ⟨hcz93_0, hcz93_1, hfz93_0, hfz93_1⟩ := blk2_ BK295))
                     go_ret2
                     exact ⟨_, g4_, g29_, impl_gets.calls_q0⟩
                   ·replace c35 := Bool.eq_false_iff.mpr c35
                    subst c35
                    replace H := ifn_ H
                    simp only [Option.some.injEq, Prod.mk.injEq] at H
                    obtain ⟨rfl, rfl⟩ := H
                    try go_wp2
                    replace HO_6 := Aside0.mk (Kd.R_drew HO_6.out)
                    replace HO_7 := Aside0.mk (Kd.R_drew HO_7.out)
                    replace BK265 := Aside0.mk (blk_drew BK265.out)
                    replace BK275 := Aside0.mk (blk_drew BK275.out)
                    replace HB := Aside0.mk (below_drew1 HB.out)
                    have p281 : 0 ≤ (x25_1 : Int) := of_decide_eq_true (g1_)
                    have q281 : x25_1 < ((rd_L2 l0_1 x35_2).length : Int) := of_decide_eq_true (g1_)
                    obtain ⟨ad281, e281, hx281_0⟩ := Kd.at_int HR279_0.out x25_1 p281 q281
                    have hw281_0 := hx281_0
                    cases e281
                    replace hx281_0 := cl_ HB hx281_0
                    replace p281 := eq_true p281
                    replace q281 := eq_true q281
                    obtain ⟨Ao95, co95, eo95⟩ := Kd.R_slice HO_6.out
                    (first | subst eo95 | (injection eo95 with f1_ f2_ f3_; have f4_ := f1_.symm; have f5_ := f3_.symm; clear f1_ f2_ f3_; subst f4_; subst f5_))
                    have p282 : 0 ≤ (x35_2 : Int) := of_decide_eq_true (g1_)
                    have q282 : x35_2 < (t266.length : Int) := of_decide_eq_true (g1_)
                    obtain ⟨ad282, e282, hx282_0⟩ := Kd.at_int (Kd.R_reads' HO_6.out).2.2 x35_2 p282 q282
                    cases e282
                    replace p282 := eq_true p282
                    replace q282 := eq_true q282
                    refine start_ (n := 15) (S := fun w' => w'.cell? (ad281.add (x25_1).toNat) = some (.int .i64 (rd (rd_L2 l0_1 x35_2) x25_1)) ∧ w'.cell? (ad282.add (x35_2).toNat) = some (.int .i64 (rd t266 x35_2))) (ds := []) (tl_ 15 0) (g0_) rfl (g0_) ⟨((cl_ HB hw281_0).trans rfl), hx282_0⟩ (fun hHeld => ?_); refine with_tabW impl_gets.tab11 impl_gets.bits11 (fun HT_ HW_ => ?_)
                    generalize wc.drew = w94 at HO_6 HO_7 BK265 BK275 HB hx281_0 hx282_0 hHeld ⊢
                    refine pw_ 0 51 (tl_ 15 1) rfl rfl ?_
                    refine pw_ 1 52 (tl_ 15 3) rfl rfl ?_
                    refine pw_ 2 53 (tl_ 15 7) rfl rfl ?_
                    refine pw_ 4 55 (tl_ 15 23) rfl rfl ?_
                    refine pw_ 5 56 (tl_ 15 55) rfl rfl ?_
                    refine pw_ 6 57 (tl_ 15 119) rfl rfl ?_
                    refine tk0_ 3 54 (tl_ 15 127) rfl rfl hHeld ?_
                    refine tk0_ 7 58 (tl_ 15 255) rfl rfl hHeld ?_
                    refine join_ (σ := Nat) 2 (tl_ 15 8191) (fun s_ => [(59, .tuple #[.agg #[.int .i64 t283, .int .i64 t284], .bool t285]), (13, .pointer (some ⟨s_, 0, none⟩)), (50, .tuple #[.agg #[.int .i64 t283, .int .i64 t284], .bool t285]), (60, .agg #[.int .i64 t283, .int .i64 t284]), (61, .bool t285)]) (fun s_ w' => (w'.cell? (ad281.add (x25_1).toNat) = some (.int .i64 (rd (rd_L2 l0_1 x35_2) x25_1)) ∧ w'.cell? (ad282.add (x35_2).toNat) = some (.int .i64 (rd t266 x35_2))) ∧ (Kd.R (Kd.int .i64) 3 w' w.heap.size (fun _ => True) (.slice (some ad282) t266.length co95) t266) ∧ (Kd.R k36 36 w' w.heap.size (fun k_ => k_ ≠ gb275 ∧ k_ ≠ s_) u7 x7_1) ∧ (w'.heap[gb265]? = some (.cells #[.slice (some ad272) l0_0.length c0_0, .slice (some ad279) l0_1.length c0_1] 26 (0, 0))) ∧ (w'.heap[gb275]? = some (.cells #[.int .i64 x276000_2, .int .i64 x276001_2] 36 (0, 0))) ∧ (w'.heap[s_]? = some (.cells #[.int .i64 0, .int .i64 0] 36 (0, 0))) ∧ (w.heap.size ≤ s_) ∧ (w.heap.size ≤ s_) ∧ (gb265 ≠ s_) ∧ (s_ ≠ gb265) ∧ (gb275 ≠ s_) ∧ (s_ ≠ gb275) ∧ (Below w.heap.size w w')) ?_ ?_
                    rotate_left
                    ·intro hCont
                     refine two_ (i := 8) (j := 12) (Ni := some 59) (Nj := some 13) (tl_ 15 511) (tl_ 15 4351) rfl rfl rfl rfl (two_of HT_.out (g0_)) (by decide) (by decide) (fun K hK => ?_) (fun K hK => ?_)
                     ·skip
                      refine goes_ Try.func92 (g0_) rfl #[.int .i64 (rd (rd_L2 l0_1 x35_2) x25_1), .int .i64 (rd t266 x35_2)] (by rfl) rfl rfl (g2_) ?_
                      with_reducible refine (impl_lowest.calls kj21 (rd (rd_L2 l0_1 x35_2) x25_1) (rd t266 x35_2) t283 t284 t285 _ A31.out).mono ?_
                      rintro e w96 ⟨rfl, hb⟩
                      have HS1_ := (hb.cell (World.block_lt_of_cell? _ _ (hHeld.2))).trans (hHeld.2)
                      refine ⟨_, rfl, ?_⟩
                      replace HO_6 := Aside0.mk (Kd.R_below (uf1_ HO_6) hb)
                      replace HO_7 := Aside0.mk (Kd.R_below (uf1_ HO_7) hb)
                      replace BK265 := Aside0.mk (blk_below (g := gb265) (o := .cells #[.slice (some ad272) l0_0.length c0_0, .slice (some ad279) l0_1.length c0_1] 26 (0, 0)) (uf0_ BK265) hb)
                      replace BK275 := Aside0.mk (blk_below (g := gb275) (o := .cells #[.int .i64 x276000_2, .int .i64 x276001_2] 36 (0, 0)) (uf0_ BK275) hb)
                      replace HB := Aside0.mk (below_step (impl_gets.calls_q0) hb)
                      (try clear hb)
                      (try clear hk hi)
                      refine hK.out _ _ ⟨((cl_ HB hw281_0).trans rfl), HS1_⟩ (fun hHeld => ?_)
                      clear hK K
                      refine nm_ ?_
                      refine pw_ 9 50 (tl_ 15 1023) rfl rfl ?_
                      refine pw_ 10 60 (tl_ 15 2047) rfl rfl ?_
                      refine pw_ 11 61 (tl_ 15 4095) rfl rfl ?_
                      refine one_ (i := 12) (N := some 13) (tl_ 15 8191) rfl rfl (one_of HT_.out (g0_)) (by decide) (fun K hK => ?_)
                      refine box_step ?hg (N := 13) ?hd (cs := #[.int .i64 0, .int .i64 0]) (t := 36) ?hr ?_; (case hd => rfl); (case hg => rfl); (case hr => first | (go_simp; done) | (go_simp; rfl))
                      intro gb286 hg w97 hbox hb
                      have HS1_ := (hb.cell (World.block_lt_of_cell? _ _ (hHeld.2))).trans (hHeld.2)
                      replace HO_6 := Aside0.mk (Kd.R_below (uf1_ HO_6) hb)
                      replace HO_7 := Aside0.mk (Kd.R_below (Kd.R_elderB (uf1_ HO_7) gb286 (Nat.le_of_eq hg.symm)) hb)
                      have BK286 := Aside0.mk (hbox)
                      have GW286 := Aside0.mk ((g7_ : w.heap.size ≤ gb286))
                      have GE286 := Aside0.mk ((g7_ : w.heap.size ≤ gb286))
                      replace HB := Aside0.mk (below_step (impl_gets.calls_q0) hb)
                      have NB265_286 := Aside0.mk ((g20_ : gb265 ≠ gb286))
                      have NB286_265 := Aside0.mk ((g21_ : gb286 ≠ gb265))
                      replace BK265 := Aside0.mk (blk_below (g := gb265) (o := .cells #[.slice (some ad272) l0_0.length c0_0, .slice (some ad279) l0_1.length c0_1] 26 (0, 0)) (uf0_ BK265) hb)
                      have NB275_286 := Aside0.mk ((g22_ : gb275 ≠ gb286))
                      have NB286_275 := Aside0.mk ((g23_ : gb286 ≠ gb275))
                      replace BK275 := Aside0.mk (blk_below (g := gb275) (o := .cells #[.int .i64 x276000_2, .int .i64 x276001_2] 36 (0, 0)) (uf0_ BK275) hb)
                      clear hb hbox hg
                      refine hK.out _ _ ⟨((cl_ HB hw281_0).trans rfl), HS1_⟩ (fun hHeld => ?_)
                      clear hK K
                      refine nm_ ?_
                      exact norm_ (g8_) (hCont (gb286) _ ⟨hHeld, (uf1_ HO_6), (uf1_ HO_7), (uf0_ BK265), (uf0_ BK275), (uf0_ BK286), GW286.out, GE286.out, NB265_286.out, NB286_265.out, NB275_286.out, NB286_275.out, (impl_gets.calls_q0)⟩)
                     ·skip
                      refine box_step ?hg (N := 13) ?hd (cs := #[.int .i64 0, .int .i64 0]) (t := 36) ?hr ?_; (case hd => rfl); (case hg => rfl); (case hr => first | (go_simp; done) | (go_simp; rfl))
                      intro gb286 hg w96 hbox hb
                      have HS1_ := (hb.cell (World.block_lt_of_cell? _ _ (hHeld.2))).trans (hHeld.2)
                      replace HO_6 := Aside0.mk (Kd.R_below (uf1_ HO_6) hb)
                      replace HO_7 := Aside0.mk (Kd.R_below (Kd.R_elderB (uf1_ HO_7) gb286 (Nat.le_of_eq hg.symm)) hb)
                      have BK286 := Aside0.mk (hbox)
                      have GW286 := Aside0.mk ((g7_ : w.heap.size ≤ gb286))
                      have GE286 := Aside0.mk ((g7_ : w.heap.size ≤ gb286))
                      replace HB := Aside0.mk (below_step (impl_gets.calls_q0) hb)
                      have NB265_286 := Aside0.mk ((g20_ : gb265 ≠ gb286))
                      have NB286_265 := Aside0.mk ((g21_ : gb286 ≠ gb265))
                      replace BK265 := Aside0.mk (blk_below (g := gb265) (o := .cells #[.slice (some ad272) l0_0.length c0_0, .slice (some ad279) l0_1.length c0_1] 26 (0, 0)) (uf0_ BK265) hb)
                      have NB275_286 := Aside0.mk ((g22_ : gb275 ≠ gb286))
                      have NB286_275 := Aside0.mk ((g23_ : gb286 ≠ gb275))
                      replace BK275 := Aside0.mk (blk_below (g := gb275) (o := .cells #[.int .i64 x276000_2, .int .i64 x276001_2] 36 (0, 0)) (uf0_ BK275) hb)
                      clear hb hbox hg
                      refine hK.out _ _ ⟨((cl_ HB hw281_0).trans rfl), HS1_⟩ (fun hHeld => ?_)
                      clear hK K
                      refine nm_ ?_
                      refine one_ (i := 8) (N := some 59) (tl_ 15 4607) rfl rfl (one_of HT_.out (g0_)) (by decide) (fun K hK => ?_)
                      refine goes_ Try.func92 (g0_) rfl #[.int .i64 (rd (rd_L2 l0_1 x35_2) x25_1), .int .i64 (rd t266 x35_2)] (by rfl) rfl rfl (g2_) ?_
                      with_reducible refine (impl_lowest.calls kj21 (rd (rd_L2 l0_1 x35_2) x25_1) (rd t266 x35_2) t283 t284 t285 _ A31.out).mono ?_
                      rintro e w97 ⟨rfl, hb⟩
                      have HS1_ := (hb.cell (World.block_lt_of_cell? _ _ (hHeld.2))).trans (hHeld.2)
                      refine ⟨_, rfl, ?_⟩
                      replace HO_6 := Aside0.mk (Kd.R_below (uf1_ HO_6) hb)
                      replace HO_7 := Aside0.mk (Kd.R_below (uf1_ HO_7) hb)
                      replace BK265 := Aside0.mk (blk_below (g := gb265) (o := .cells #[.slice (some ad272) l0_0.length c0_0, .slice (some ad279) l0_1.length c0_1] 26 (0, 0)) (uf0_ BK265) hb)
                      replace BK275 := Aside0.mk (blk_below (g := gb275) (o := .cells #[.int .i64 x276000_2, .int .i64 x276001_2] 36 (0, 0)) (uf0_ BK275) hb)
                      replace BK286 := Aside0.mk (blk_below (g := gb286) (o := .cells #[.int .i64 0, .int .i64 0] 36 (0, 0)) (uf0_ BK286) hb)
                      replace HB := Aside0.mk (below_step (impl_gets.calls_q0) hb)
                      (try clear hb)
                      (try clear hk hi)
                      refine hK.out _ _ ⟨((cl_ HB hw281_0).trans rfl), HS1_⟩ (fun hHeld => ?_)
                      clear hK K
                      refine nm_ ?_
                      refine pw_ 9 50 (tl_ 15 5119) rfl rfl ?_
                      refine pw_ 10 60 (tl_ 15 6143) rfl rfl ?_
                      refine pw_ 11 61 (tl_ 15 8191) rfl rfl ?_
                      exact norm_ (g8_) (hCont (gb286) _ ⟨hHeld, (uf1_ HO_6), (uf1_ HO_7), (uf0_ BK265), (uf0_ BK275), (uf0_ BK286), GW286.out, GE286.out, NB265_286.out, NB286_265.out, NB275_286.out, NB286_275.out, (impl_gets.calls_q0)⟩)
                    rintro gb286 w98 ⟨hS_, h0_, h1_, h2_, h3_, h4_, h5_, h6_, h7_, h8_, h9_, h10_, h11_⟩
                    replace HO_6 : Aside0 (Kd.R (Kd.int .i64) 3 w98 w.heap.size (fun _ => True) (.slice (some ad282) t266.length co95) t266) := ⟨h0_⟩
                    replace HO_7 : Aside0 (Kd.R k36 36 w98 w.heap.size (fun k_ => k_ ≠ gb275 ∧ k_ ≠ gb286) u7 x7_1) := ⟨h1_⟩
                    replace BK265 : Aside0 (w98.heap[gb265]? = some (.cells #[.slice (some ad272) l0_0.length c0_0, .slice (some ad279) l0_1.length c0_1] 26 (0, 0))) := ⟨h2_⟩
                    replace BK275 : Aside0 (w98.heap[gb275]? = some (.cells #[.int .i64 x276000_2, .int .i64 x276001_2] 36 (0, 0))) := ⟨h3_⟩
                    have BK286 : Aside0 (w98.heap[gb286]? = some (.cells #[.int .i64 0, .int .i64 0] 36 (0, 0))) := ⟨h4_⟩
                    have GW286 : Aside0 (w.heap.size ≤ gb286) := ⟨h5_⟩
                    have GE286 : Aside0 (w.heap.size ≤ gb286) := ⟨h6_⟩
                    have NB265_286 : Aside0 (gb265 ≠ gb286) := ⟨h7_⟩
                    have NB286_265 : Aside0 (gb286 ≠ gb265) := ⟨h8_⟩
                    have NB275_286 : Aside0 (gb275 ≠ gb286) := ⟨h9_⟩
                    have NB286_275 : Aside0 (gb286 ≠ gb275) := ⟨h10_⟩
                    replace HB : Aside0 (Below w.heap.size w w98) := ⟨h11_⟩
                    clear h0_ h1_ h2_ h3_ h4_ h5_ h6_ h7_ h8_ h9_ h10_ h11_
                    have hHeld : w98.cell? (ad281.add (x25_1).toNat) = some (.int .i64 (rd (rd_L2 l0_1 x35_2) x25_1)) ∧ w98.cell? (ad282.add (x35_2).toNat) = some (.int .i64 (rd t266 x35_2)) := hS_
                    refine norm_ (a' := ?_) ?_ ?_
                    rotate_left
                    ·simp only [putAll, Act.put, List.setIfInBounds_toArray, List.set_cons_zero, List.set_cons_succ]
                     rfl
                    refine one_ (i := 13) (N := none) (tl_ 15 16383) rfl rfl (one_of HT_.out (g0_)) (by decide) (fun K hK => ?_)
                    have hs99 : w98.cell? ⟨gb286, 0, none⟩ = some (.int .i64 0) := (blk_cell BK286.out 0).trans rfl
                    have hfs99 := blk_frozen BK286.out 0
                    have hns99_0 := NB265_286.out
                    have hns99_1 := NB275_286.out
                    have hms99_0 := NB286_265.out
                    have hms99_1 := NB286_275.out
                    have hs100 : w98.cell? ⟨gb286, 1, none⟩ = some (.int .i64 0) := (blk_cell BK286.out 1).trans rfl
                    have hfs100 := blk_frozen BK286.out 1
                    have hns100_0 := NB265_286.out
                    have hns100_1 := NB275_286.out
                    have hms100_0 := NB286_265.out
                    have hms100_1 := NB286_275.out
                    refine skip_ (w1 := ?_) (by rfl) rfl ?_ ?_
                    rotate_left
                    ·go_simp
                     rfl
                    refine hK.out _ _ ⟨((cell_far (p := ⟨gb286, _, none⟩) (by first | exact Nat.ne_of_lt (Nat.lt_of_lt_of_le (by have := World.block_lt_of_cell? _ _ hw281_0; first | rwa [add_block] at this | exact this) GW286.out) | (rw [add_block]; exact Nat.ne_of_lt (Nat.lt_of_lt_of_le (by have := World.block_lt_of_cell? _ _ hw281_0; first | rwa [add_block] at this | exact this) GW286.out)) | (show (Addr.add _ _).block ≠ _; rw [add_block]; exact Nat.ne_of_lt (Nat.lt_of_lt_of_le (by have := World.block_lt_of_cell? _ _ hw281_0; first | rwa [add_block] at this | exact this) GW286.out)) | (dsimp only; exact Nat.ne_of_lt (Nat.lt_of_lt_of_le (by have := World.block_lt_of_cell? _ _ hw281_0; first | rwa [add_block] at this | exact this) GW286.out))) _).trans (((cell_far (p := ⟨gb286, _, none⟩) (by first | exact Nat.ne_of_lt (Nat.lt_of_lt_of_le (by have := World.block_lt_of_cell? _ _ hw281_0; first | rwa [add_block] at this | exact this) GW286.out) | (rw [add_block]; exact Nat.ne_of_lt (Nat.lt_of_lt_of_le (by have := World.block_lt_of_cell? _ _ hw281_0; first | rwa [add_block] at this | exact this) GW286.out)) | (show (Addr.add _ _).block ≠ _; rw [add_block]; exact Nat.ne_of_lt (Nat.lt_of_lt_of_le (by have := World.block_lt_of_cell? _ _ hw281_0; first | rwa [add_block] at this | exact this) GW286.out)) | (dsimp only; exact Nat.ne_of_lt (Nat.lt_of_lt_of_le (by have := World.block_lt_of_cell? _ _ hw281_0; first | rwa [add_block] at this | exact this) GW286.out))) _).trans (hHeld.1)))), ((cell_far (p := ⟨gb286, _, none⟩) (g52_) _).trans (((cell_far (p := ⟨gb286, _, none⟩) (g52_) _).trans (hHeld.2))))⟩ (fun hHeld => ?_)
                    clear hK K
                    refine pw_ 14 14 (tl_ 15 32767) rfl rfl ?_
                    refine done_ (done_of HT_.out (g0_)) ?_
                    try go_wp2
                    have n0_ : Aside0 (Kd.R (Kd.int .i64) 3 ((w98.setCell ⟨gb286, 0, none⟩ (.int .i64 t283)).setCell ⟨gb286, 1, none⟩ (.int .i64 t284)) w.heap.size (fun _ => True) (.slice (some ad282) t266.length co95) t266) := ⟨g126_⟩
                    have n1_ : Aside0 (Kd.R k36 36 ((w98.setCell ⟨gb286, 0, none⟩ (.int .i64 t283)).setCell ⟨gb286, 1, none⟩ (.int .i64 t284)) w.heap.size (fun k_ => k_ ≠ gb275 ∧ k_ ≠ gb286) u7 x7_1) := ⟨g127_⟩
                    have n2_ : Aside0 (((w98.setCell ⟨gb286, 0, none⟩ (.int .i64 t283)).setCell ⟨gb286, 1, none⟩ (.int .i64 t284)).heap[gb265]? = some (.cells #[.slice (some ad272) l0_0.length c0_0, .slice (some ad279) l0_1.length c0_1] 26 (0, 0))) := ⟨g128_⟩
                    have n3_ : Aside0 (((w98.setCell ⟨gb286, 0, none⟩ (.int .i64 t283)).setCell ⟨gb286, 1, none⟩ (.int .i64 t284)).heap[gb275]? = some (.cells #[.int .i64 x276000_2, .int .i64 x276001_2] 36 (0, 0))) := ⟨g129_⟩
                    have n4_ : Aside0 (((w98.setCell ⟨gb286, 0, none⟩ (.int .i64 t283)).setCell ⟨gb286, 1, none⟩ (.int .i64 t284)).heap[gb286]? = some (.cells #[.int .i64 t283, .int .i64 t284] 36 (0, 0))) := ⟨g130_⟩
                    have n5_ : Aside0 (Below w.heap.size w ((w98.setCell ⟨gb286, 0, none⟩ (.int .i64 t283)).setCell ⟨gb286, 1, none⟩ (.int .i64 t284))) := ⟨impl_gets.calls_q0⟩
                    (try clear HO_6)
                    (try clear HO_7)
                    (try clear BK265)
                    (try clear BK275)
                    (try clear BK286)
                    (try clear HB)
                    generalize ((w98.setCell ⟨gb286, 0, none⟩ (.int .i64 t283)).setCell ⟨gb286, 1, none⟩ (.int .i64 t284)) = w101 at n0_ n1_ n2_ n3_ n4_ n5_ ⊢
                    have HO_6 := n0_
                    have HO_7 := n1_
                    have BK265 := n2_
                    have BK275 := n3_
                    have BK286 := n4_
                    have HB := n5_
                    clear n0_ n1_ n2_ n3_ n4_ n5_
                    replace HO_6 := Aside0.mk (Kd.R_drew HO_6.out)
                    replace HO_7 := Aside0.mk (Kd.R_drew HO_7.out)
                    replace BK265 := Aside0.mk (blk_drew BK265.out)
                    replace BK275 := Aside0.mk (blk_drew BK275.out)
                    replace BK286 := Aside0.mk (blk_drew BK286.out)
                    replace HB := Aside0.mk (below_drew1 HB.out)
                    have p287 : 0 ≤ (x35_2 : Int) := of_decide_eq_true (g1_)
                    have q287 : x35_2 < (l1.length : Int) := of_decide_eq_true (g1_)
                    obtain ⟨ad287, e287, hx287_0, hx287_1⟩ := at_T36 HR1.out x35_2 p287 q287
                    have hw287_1 := hx287_1
                    have hw287_0 := hx287_0
                    cases e287
                    replace hx287_0 := cl_ HB hx287_0
                    replace hx287_1 := cl_ HB hx287_1
                    replace p287 := eq_true p287
                    replace q287 := eq_true q287
                    refine start_ (n := 12) (S := fun w' => w'.cell? ⟨gb286, 0, none⟩ = some (.int .i64 t283) ∧ w'.cell? ⟨gb286, 1, none⟩ = some (.int .i64 t284) ∧ w'.cell? (ad287.add ((x35_2).toNat * 2)) = some (.int .i64 ((rd_T36 l1 x35_2).f0)) ∧ w'.cell? ⟨(ad287.add ((x35_2).toNat * 2)).block, (ad287.add ((x35_2).toNat * 2)).off + 1, none⟩ = some (.int .i64 ((rd_T36 l1 x35_2).f1))) (ds := []) (tl_ 12 0) (g0_) rfl (g0_) ⟨(blk_cell BK286.out 0).trans rfl, (blk_cell BK286.out 1).trans rfl, ((cl_ HB hw287_0).trans rfl), ((cl_ HB hw287_1).trans rfl)⟩ (fun hHeld => ?_); refine with_tabW impl_gets.tab12 impl_gets.bits12 (fun HT_ HW_ => ?_)
                    generalize w101.drew = w102 at HO_6 HO_7 BK265 BK275 BK286 HB hx287_0 hx287_1 hHeld ⊢
                    refine pw_ 0 63 (tl_ 12 1) rfl rfl ?_
                    refine pw_ 1 64 (tl_ 12 3) rfl rfl ?_
                    refine pw_ 2 65 (tl_ 12 7) rfl rfl ?_
                    refine tk3_ 3 66 (tl_ 12 15) rfl rfl hHeld ?_
                    refine tk3_ 4 67 (tl_ 12 31) rfl rfl hHeld ?_
                    refine join_ (σ := Nat) 2 (tl_ 12 1023) (fun s_ => [(68, .tuple #[.agg #[.int .i64 t288, .int .i64 t289], .bool false]), (15, .pointer (some ⟨s_, 0, none⟩)), (62, .tuple #[.agg #[.int .i64 t288, .int .i64 t289], .bool false]), (69, .agg #[.int .i64 t288, .int .i64 t289]), (70, .bool false)]) (fun s_ w' => (w'.cell? ⟨gb286, 0, none⟩ = some (.int .i64 t283) ∧ w'.cell? ⟨gb286, 1, none⟩ = some (.int .i64 t284) ∧ w'.cell? (ad287.add ((x35_2).toNat * 2)) = some (.int .i64 ((rd_T36 l1 x35_2).f0)) ∧ w'.cell? ⟨(ad287.add ((x35_2).toNat * 2)).block, (ad287.add ((x35_2).toNat * 2)).off + 1, none⟩ = some (.int .i64 ((rd_T36 l1 x35_2).f1))) ∧ (Kd.R (Kd.int .i64) 3 w' w.heap.size (fun _ => True) (.slice (some ad282) t266.length co95) t266) ∧ (Kd.R k36 36 w' w.heap.size (fun k_ => k_ ≠ gb275 ∧ k_ ≠ gb286 ∧ k_ ≠ s_) u7 x7_1) ∧ (w'.heap[gb265]? = some (.cells #[.slice (some ad272) l0_0.length c0_0, .slice (some ad279) l0_1.length c0_1] 26 (0, 0))) ∧ (w'.heap[gb275]? = some (.cells #[.int .i64 x276000_2, .int .i64 x276001_2] 36 (0, 0))) ∧ (w'.heap[gb286]? = some (.cells #[.int .i64 t283, .int .i64 t284] 36 (0, 0))) ∧ (w'.heap[s_]? = some (.cells #[.int .i64 0, .int .i64 0] 36 (0, 0))) ∧ (w.heap.size ≤ s_) ∧ (w.heap.size ≤ s_) ∧ (gb265 ≠ s_) ∧ (s_ ≠ gb265) ∧ (gb275 ≠ s_) ∧ (s_ ≠ gb275) ∧ (gb286 ≠ s_) ∧ (s_ ≠ gb286) ∧ (Below w.heap.size w w')) ?_ ?_
                    rotate_left
                    ·intro hCont
                     refine two_ (i := 5) (j := 9) (Ni := some 68) (Nj := some 15) (tl_ 12 63) (tl_ 12 543) rfl rfl rfl rfl (two_of HT_.out (g0_)) (by decide) (by decide) (fun K hK => ?_) (fun K hK => ?_)
                     ·skip
                      refine goes_ Try.func93 (g0_) rfl #[.agg #[.int .i64 ((rd_T36 l1 x35_2).f0), .int .i64 ((rd_T36 l1 x35_2).f1)], .agg #[.int .i64 t283, .int .i64 t284]] (by rfl) rfl rfl (g2_) ?_
                      with_reducible refine (impl_times.calls kj21 ((rd_T36 l1 x35_2).f0) ((rd_T36 l1 x35_2).f1) t283 t284 t288 t289 false _ A33.out).mono ?_
                      rintro e w103 ⟨rfl, hb⟩
                      refine ⟨_, rfl, ?_⟩
                      replace HO_6 := Aside0.mk (Kd.R_below (uf1_ HO_6) hb)
                      replace HO_7 := Aside0.mk (Kd.R_below (uf1_ HO_7) hb)
                      replace BK265 := Aside0.mk (blk_below (g := gb265) (o := .cells #[.slice (some ad272) l0_0.length c0_0, .slice (some ad279) l0_1.length c0_1] 26 (0, 0)) (uf0_ BK265) hb)
                      replace BK275 := Aside0.mk (blk_below (g := gb275) (o := .cells #[.int .i64 x276000_2, .int .i64 x276001_2] 36 (0, 0)) (uf0_ BK275) hb)
                      replace BK286 := Aside0.mk (blk_below (g := gb286) (o := .cells #[.int .i64 t283, .int .i64 t284] 36 (0, 0)) (uf0_ BK286) hb)
                      replace HB := Aside0.mk (below_step (impl_gets.calls_q0) hb)
                      (try clear hb)
                      (try clear hk hi)
                      refine hK.out _ _ ⟨(blk_cell BK286.out 0).trans rfl, (blk_cell BK286.out 1).trans rfl, ((cl_ HB hw287_0).trans rfl), ((cl_ HB hw287_1).trans rfl)⟩ (fun hHeld => ?_)
                      clear hK K
                      refine nm_ ?_
                      refine pw_ 6 62 (tl_ 12 127) rfl rfl ?_
                      refine pw_ 7 69 (tl_ 12 255) rfl rfl ?_
                      refine pw_ 8 70 (tl_ 12 511) rfl rfl ?_
                      refine one_ (i := 9) (N := some 15) (tl_ 12 1023) rfl rfl (one_of HT_.out (g0_)) (by decide) (fun K hK => ?_)
                      refine box_step ?hg (N := 15) ?hd (cs := #[.int .i64 0, .int .i64 0]) (t := 36) ?hr ?_; (case hd => rfl); (case hg => rfl); (case hr => first | (go_simp; done) | (go_simp; rfl))
                      intro gb291 hg w104 hbox hb
                      replace HO_6 := Aside0.mk (Kd.R_below (uf1_ HO_6) hb)
                      replace HO_7 := Aside0.mk (Kd.R_below (Kd.R_elderB (uf1_ HO_7) gb291 (Nat.le_of_eq hg.symm)) hb)
                      have BK291 := Aside0.mk (hbox)
                      have GW291 := Aside0.mk ((g7_ : w.heap.size ≤ gb291))
                      have GE291 := Aside0.mk ((g7_ : w.heap.size ≤ gb291))
                      replace HB := Aside0.mk (below_step (impl_gets.calls_q0) hb)
                      have NB265_291 := Aside0.mk ((g20_ : gb265 ≠ gb291))
                      have NB291_265 := Aside0.mk ((g21_ : gb291 ≠ gb265))
                      replace BK265 := Aside0.mk (blk_below (g := gb265) (o := .cells #[.slice (some ad272) l0_0.length c0_0, .slice (some ad279) l0_1.length c0_1] 26 (0, 0)) (uf0_ BK265) hb)
                      have NB275_291 := Aside0.mk ((g22_ : gb275 ≠ gb291))
                      have NB291_275 := Aside0.mk ((g23_ : gb291 ≠ gb275))
                      replace BK275 := Aside0.mk (blk_below (g := gb275) (o := .cells #[.int .i64 x276000_2, .int .i64 x276001_2] 36 (0, 0)) (uf0_ BK275) hb)
                      have NB286_291 := Aside0.mk ((g37_ : gb286 ≠ gb291))
                      have NB291_286 := Aside0.mk ((g38_ : gb291 ≠ gb286))
                      replace BK286 := Aside0.mk (blk_below (g := gb286) (o := .cells #[.int .i64 t283, .int .i64 t284] 36 (0, 0)) (uf0_ BK286) hb)
                      clear hb hbox hg
                      refine hK.out _ _ ⟨(blk_cell BK286.out 0).trans rfl, (blk_cell BK286.out 1).trans rfl, ((cl_ HB hw287_0).trans rfl), ((cl_ HB hw287_1).trans rfl)⟩ (fun hHeld => ?_)
                      clear hK K
                      refine nm_ ?_
                      exact norm_ (g8_) (hCont (gb291) _ ⟨hHeld, (uf1_ HO_6), (g53_), (uf0_ BK265), (uf0_ BK275), (uf0_ BK286), (uf0_ BK291), GW291.out, GE291.out, NB265_291.out, NB291_265.out, NB275_291.out, NB291_275.out, NB286_291.out, NB291_286.out, (impl_gets.calls_q0)⟩)
                     ·skip
                      refine box_step ?hg (N := 15) ?hd (cs := #[.int .i64 0, .int .i64 0]) (t := 36) ?hr ?_; (case hd => rfl); (case hg => rfl); (case hr => first | (go_simp; done) | (go_simp; rfl))
                      intro gb291 hg w103 hbox hb
                      replace HO_6 := Aside0.mk (Kd.R_below (uf1_ HO_6) hb)
                      replace HO_7 := Aside0.mk (Kd.R_below (Kd.R_elderB (uf1_ HO_7) gb291 (Nat.le_of_eq hg.symm)) hb)
                      have BK291 := Aside0.mk (hbox)
                      have GW291 := Aside0.mk ((g7_ : w.heap.size ≤ gb291))
                      have GE291 := Aside0.mk ((g7_ : w.heap.size ≤ gb291))
                      replace HB := Aside0.mk (below_step (impl_gets.calls_q0) hb)
                      have NB265_291 := Aside0.mk ((g20_ : gb265 ≠ gb291))
                      have NB291_265 := Aside0.mk ((g21_ : gb291 ≠ gb265))
                      replace BK265 := Aside0.mk (blk_below (g := gb265) (o := .cells #[.slice (some ad272) l0_0.length c0_0, .slice (some ad279) l0_1.length c0_1] 26 (0, 0)) (uf0_ BK265) hb)
                      have NB275_291 := Aside0.mk ((g22_ : gb275 ≠ gb291))
                      have NB291_275 := Aside0.mk ((g23_ : gb291 ≠ gb275))
                      replace BK275 := Aside0.mk (blk_below (g := gb275) (o := .cells #[.int .i64 x276000_2, .int .i64 x276001_2] 36 (0, 0)) (uf0_ BK275) hb)
                      have NB286_291 := Aside0.mk ((g37_ : gb286 ≠ gb291))
                      have NB291_286 := Aside0.mk ((g38_ : gb291 ≠ gb286))
                      replace BK286 := Aside0.mk (blk_below (g := gb286) (o := .cells #[.int .i64 t283, .int .i64 t284] 36 (0, 0)) (uf0_ BK286) hb)
                      clear hb hbox hg
                      refine hK.out _ _ ⟨(blk_cell BK286.out 0).trans rfl, (blk_cell BK286.out 1).trans rfl, ((cl_ HB hw287_0).trans rfl), ((cl_ HB hw287_1).trans rfl)⟩ (fun hHeld => ?_)
                      clear hK K
                      refine nm_ ?_
                      refine one_ (i := 5) (N := some 68) (tl_ 12 575) rfl rfl (one_of HT_.out (g0_)) (by decide) (fun K hK => ?_)
                      refine goes_ Try.func93 (g0_) rfl #[.agg #[.int .i64 ((rd_T36 l1 x35_2).f0), .int .i64 ((rd_T36 l1 x35_2).f1)], .agg #[.int .i64 t283, .int .i64 t284]] (by rfl) rfl rfl (g2_) ?_
                      with_reducible refine (impl_times.calls kj21 ((rd_T36 l1 x35_2).f0) ((rd_T36 l1 x35_2).f1) t283 t284 t288 t289 false _ A33.out).mono ?_
                      rintro e w104 ⟨rfl, hb⟩
                      refine ⟨_, rfl, ?_⟩
                      replace HO_6 := Aside0.mk (Kd.R_below (uf1_ HO_6) hb)
                      replace HO_7 := Aside0.mk (Kd.R_below (uf1_ HO_7) hb)
                      replace BK265 := Aside0.mk (blk_below (g := gb265) (o := .cells #[.slice (some ad272) l0_0.length c0_0, .slice (some ad279) l0_1.length c0_1] 26 (0, 0)) (uf0_ BK265) hb)
                      replace BK275 := Aside0.mk (blk_below (g := gb275) (o := .cells #[.int .i64 x276000_2, .int .i64 x276001_2] 36 (0, 0)) (uf0_ BK275) hb)
                      replace BK286 := Aside0.mk (blk_below (g := gb286) (o := .cells #[.int .i64 t283, .int .i64 t284] 36 (0, 0)) (uf0_ BK286) hb)
                      replace BK291 := Aside0.mk (blk_below (g := gb291) (o := .cells #[.int .i64 0, .int .i64 0] 36 (0, 0)) (uf0_ BK291) hb)
                      replace HB := Aside0.mk (below_step (impl_gets.calls_q0) hb)
                      (try clear hb)
                      (try clear hk hi)
                      refine hK.out _ _ ⟨(blk_cell BK286.out 0).trans rfl, (blk_cell BK286.out 1).trans rfl, ((cl_ HB hw287_0).trans rfl), ((cl_ HB hw287_1).trans rfl)⟩ (fun hHeld => ?_)
                      clear hK K
                      refine nm_ ?_
                      refine pw_ 6 62 (tl_ 12 639) rfl rfl ?_
                      refine pw_ 7 69 (tl_ 12 767) rfl rfl ?_
                      refine pw_ 8 70 (tl_ 12 1023) rfl rfl ?_
                      exact norm_ (g8_) (hCont (gb291) _ ⟨hHeld, (uf1_ HO_6), (g53_), (uf0_ BK265), (uf0_ BK275), (uf0_ BK286), (uf0_ BK291), GW291.out, GE291.out, NB265_291.out, NB291_265.out, NB275_291.out, NB291_275.out, NB286_291.out, NB291_286.out, (impl_gets.calls_q0)⟩)
                    rintro gb291 w105 ⟨hS_, h0_, h1_, h2_, h3_, h4_, h5_, h6_, h7_, h8_, h9_, h10_, h11_, h12_, h13_, h14_⟩
                    replace HO_6 : Aside0 (Kd.R (Kd.int .i64) 3 w105 w.heap.size (fun _ => True) (.slice (some ad282) t266.length co95) t266) := ⟨h0_⟩
                    replace HO_7 : Aside0 (Kd.R k36 36 w105 w.heap.size (fun k_ => k_ ≠ gb275 ∧ k_ ≠ gb286 ∧ k_ ≠ gb291) u7 x7_1) := ⟨h1_⟩
                    replace BK265 : Aside0 (w105.heap[gb265]? = some (.cells #[.slice (some ad272) l0_0.length c0_0, .slice (some ad279) l0_1.length c0_1] 26 (0, 0))) := ⟨h2_⟩
                    replace BK275 : Aside0 (w105.heap[gb275]? = some (.cells #[.int .i64 x276000_2, .int .i64 x276001_2] 36 (0, 0))) := ⟨h3_⟩
                    replace BK286 : Aside0 (w105.heap[gb286]? = some (.cells #[.int .i64 t283, .int .i64 t284] 36 (0, 0))) := ⟨h4_⟩
                    have BK291 : Aside0 (w105.heap[gb291]? = some (.cells #[.int .i64 0, .int .i64 0] 36 (0, 0))) := ⟨h5_⟩
                    have GW291 : Aside0 (w.heap.size ≤ gb291) := ⟨h6_⟩
                    have GE291 : Aside0 (w.heap.size ≤ gb291) := ⟨h7_⟩
                    have NB265_291 : Aside0 (gb265 ≠ gb291) := ⟨h8_⟩
                    have NB291_265 : Aside0 (gb291 ≠ gb265) := ⟨h9_⟩
                    have NB275_291 : Aside0 (gb275 ≠ gb291) := ⟨h10_⟩
                    have NB291_275 : Aside0 (gb291 ≠ gb275) := ⟨h11_⟩
                    have NB286_291 : Aside0 (gb286 ≠ gb291) := ⟨h12_⟩
                    have NB291_286 : Aside0 (gb291 ≠ gb286) := ⟨h13_⟩
                    replace HB : Aside0 (Below w.heap.size w w105) := ⟨h14_⟩
                    clear h0_ h1_ h2_ h3_ h4_ h5_ h6_ h7_ h8_ h9_ h10_ h11_ h12_ h13_ h14_
                    have hHeld : w105.cell? ⟨gb286, 0, none⟩ = some (.int .i64 t283) ∧ w105.cell? ⟨gb286, 1, none⟩ = some (.int .i64 t284) ∧ w105.cell? (ad287.add ((x35_2).toNat * 2)) = some (.int .i64 ((rd_T36 l1 x35_2).f0)) ∧ w105.cell? ⟨(ad287.add ((x35_2).toNat * 2)).block, (ad287.add ((x35_2).toNat * 2)).off + 1, none⟩ = some (.int .i64 ((rd_T36 l1 x35_2).f1)) := hS_
                    refine norm_ (a' := ?_) ?_ ?_
                    rotate_left
                    ·simp only [putAll, Act.put, List.setIfInBounds_toArray, List.set_cons_zero, List.set_cons_succ]
                     rfl
                    refine one_ (i := 10) (N := none) (tl_ 12 2047) rfl rfl (one_of HT_.out (g0_)) (by decide) (fun K hK => ?_)
                    have hs106 : w105.cell? ⟨gb291, 0, none⟩ = some (.int .i64 0) := (blk_cell BK291.out 0).trans rfl
                    have hfs106 := blk_frozen BK291.out 0
                    have hns106_0 := NB265_291.out
                    have hns106_1 := NB275_291.out
                    have hns106_2 := NB286_291.out
                    have hms106_0 := NB291_265.out
                    have hms106_1 := NB291_275.out
                    have hms106_2 := NB291_286.out
                    have hs107 : w105.cell? ⟨gb291, 1, none⟩ = some (.int .i64 0) := (blk_cell BK291.out 1).trans rfl
                    have hfs107 := blk_frozen BK291.out 1
                    have hns107_0 := NB265_291.out
                    have hns107_1 := NB275_291.out
                    have hns107_2 := NB286_291.out
                    have hms107_0 := NB291_265.out
                    have hms107_1 := NB291_275.out
                    have hms107_2 := NB291_286.out
                    refine skip_ (w1 := ?_) (by rfl) rfl ?_ ?_
                    rotate_left
                    ·go_simp
                     rfl
                    refine hK.out _ _ ⟨((cell_far (p := ⟨gb291, _, none⟩) NB286_291.out _).trans (((cell_far (p := ⟨gb291, _, none⟩) NB286_291.out _).trans (hHeld.1)))), ((cell_far (p := ⟨gb291, _, none⟩) NB286_291.out _).trans (((cell_far (p := ⟨gb291, _, none⟩) NB286_291.out _).trans (hHeld.2.1)))), ((cell_far (p := ⟨gb291, _, none⟩) (by first | exact Nat.ne_of_lt (Nat.lt_of_lt_of_le (by have := World.block_lt_of_cell? _ _ hw287_0; first | rwa [add_block] at this | exact this) GW291.out) | (rw [add_block]; exact Nat.ne_of_lt (Nat.lt_of_lt_of_le (by have := World.block_lt_of_cell? _ _ hw287_0; first | rwa [add_block] at this | exact this) GW291.out)) | (show (Addr.add _ _).block ≠ _; rw [add_block]; exact Nat.ne_of_lt (Nat.lt_of_lt_of_le (by have := World.block_lt_of_cell? _ _ hw287_0; first | rwa [add_block] at this | exact this) GW291.out)) | (dsimp only; exact Nat.ne_of_lt (Nat.lt_of_lt_of_le (by have := World.block_lt_of_cell? _ _ hw287_0; first | rwa [add_block] at this | exact this) GW291.out))) _).trans (((cell_far (p := ⟨gb291, _, none⟩) (by first | exact Nat.ne_of_lt (Nat.lt_of_lt_of_le (by have := World.block_lt_of_cell? _ _ hw287_0; first | rwa [add_block] at this | exact this) GW291.out) | (rw [add_block]; exact Nat.ne_of_lt (Nat.lt_of_lt_of_le (by have := World.block_lt_of_cell? _ _ hw287_0; first | rwa [add_block] at this | exact this) GW291.out)) | (show (Addr.add _ _).block ≠ _; rw [add_block]; exact Nat.ne_of_lt (Nat.lt_of_lt_of_le (by have := World.block_lt_of_cell? _ _ hw287_0; first | rwa [add_block] at this | exact this) GW291.out)) | (dsimp only; exact Nat.ne_of_lt (Nat.lt_of_lt_of_le (by have := World.block_lt_of_cell? _ _ hw287_0; first | rwa [add_block] at this | exact this) GW291.out))) _).trans (hHeld.2.2.1)))), ((cell_far (p := ⟨gb291, _, none⟩) (by first | exact Nat.ne_of_lt (Nat.lt_of_lt_of_le (by have := World.block_lt_of_cell? _ _ hw287_1; first | rwa [add_block] at this | exact this) GW291.out) | (rw [add_block]; exact Nat.ne_of_lt (Nat.lt_of_lt_of_le (by have := World.block_lt_of_cell? _ _ hw287_1; first | rwa [add_block] at this | exact this) GW291.out)) | (show (Addr.add _ _).block ≠ _; rw [add_block]; exact Nat.ne_of_lt (Nat.lt_of_lt_of_le (by have := World.block_lt_of_cell? _ _ hw287_1; first | rwa [add_block] at this | exact this) GW291.out)) | (dsimp only; exact Nat.ne_of_lt (Nat.lt_of_lt_of_le (by have := World.block_lt_of_cell? _ _ hw287_1; first | rwa [add_block] at this | exact this) GW291.out))) _).trans (((cell_far (p := ⟨gb291, _, none⟩) (by first | exact Nat.ne_of_lt (Nat.lt_of_lt_of_le (by have := World.block_lt_of_cell? _ _ hw287_1; first | rwa [add_block] at this | exact this) GW291.out) | (rw [add_block]; exact Nat.ne_of_lt (Nat.lt_of_lt_of_le (by have := World.block_lt_of_cell? _ _ hw287_1; first | rwa [add_block] at this | exact this) GW291.out)) | (show (Addr.add _ _).block ≠ _; rw [add_block]; exact Nat.ne_of_lt (Nat.lt_of_lt_of_le (by have := World.block_lt_of_cell? _ _ hw287_1; first | rwa [add_block] at this | exact this) GW291.out)) | (dsimp only; exact Nat.ne_of_lt (Nat.lt_of_lt_of_le (by have := World.block_lt_of_cell? _ _ hw287_1; first | rwa [add_block] at this | exact this) GW291.out))) _).trans (hHeld.2.2.2))))⟩ (fun hHeld => ?_)
                    clear hK K
                    refine pw_ 11 16 (tl_ 12 4095) rfl rfl ?_
                    refine done_ (done_of HT_.out (g0_)) ?_
                    have hnb108 := NB275_265.out
                    have hnc108 := NB265_275.out
                    have hnb109 := NB275_286.out
                    have hnc109 := NB286_275.out
                    have hnb110 := NB275_291.out
                    have hnc110 := NB291_275.out
                    obtain ⟨hcz111_0, hcz111_1, hfz111_0, hfz111_1⟩ := blk2_ BK275
                    have hnb112 := NB291_265.out
                    have hnc112 := NB265_291.out
                    have hnb113 := NB291_286.out
                    have hnc113 := NB286_291.out
                    obtain ⟨hcz114_0, hcz114_1, hfz114_0, hfz114_1⟩ := blk2_ BK291
                    try go_wp2_with (first | ((with_reducible refine gate_callee (f := 81) rfl ?_); refine goesL_ (some 74) rfl rfl Try.func81 k_ rfl #[.agg #[.int .i64 x276000_2, .int .i64 x276001_2], .agg #[.int .i64 t288, .int .i64 t289]] rfl (g2_) ?_; (with_reducible refine (impl_plus.calls kj21 x276000_2 x276001_2 t288 t289 t292 t293 t294 _ A34.out).mono ?_); rintro e w115 ⟨rfl, hb⟩; refine ⟨_, rfl, ?_⟩; replace HO_6 := Aside0.mk (Kd.R_below (g131_) hb); replace HO_7 := Aside0.mk (Kd.R_below (g132_) hb); replace BK265 := Aside0.mk (blk_below (g := gb265) (o := .cells #[.slice (some ad272) l0_0.length c0_0, .slice (some ad279) l0_1.length c0_1] 26 (0, 0)) (g133_) hb); replace BK275 := Aside0.mk (blk_below (g := gb275) (o := .cells #[.int .i64 x276000_2, .int .i64 x276001_2] 36 (0, 0)) (g134_) hb); replace BK286 := Aside0.mk (blk_below (g := gb286) (o := .cells #[.int .i64 t283, .int .i64 t284] 36 (0, 0)) (g135_) hb); replace BK291 := Aside0.mk (blk_below (g := gb291) (o := .cells #[.int .i64 t288, .int .i64 t289] 36 (0, 0)) (g136_) hb); replace HB := Aside0.mk (below_step (impl_gets.calls_q0) hb); (try clear hb); (try clear hk hi)) | ((with_reducible refine gate_dst (N := 17) rfl ?_); refine bx_ (N := 17) #[.int .i64 0, .int .i64 0] 36 ?_; intro gb295 hg w116 hbox hb; replace HO_6 := Aside0.mk (Kd.R_below (uf1_ HO_6) hb); replace HO_7 := Aside0.mk (Kd.R_below (Kd.R_elderB (uf1_ HO_7) gb295 (Nat.le_of_eq hg.symm)) hb); have BK295 := Aside0.mk (hbox); have GW295 := Aside0.mk ((g7_ : w.heap.size ≤ gb295)); have GE295 := Aside0.mk ((g7_ : w.heap.size ≤ gb295)); replace HB := Aside0.mk (below_step (impl_gets.calls_q0) hb); have NB265_295 := Aside0.mk ((g20_ : gb265 ≠ gb295)); have NB295_265 := Aside0.mk ((g21_ : gb295 ≠ gb265)); replace BK265 := Aside0.mk (blk_below (g := gb265) (o := .cells #[.slice (some ad272) l0_0.length c0_0, .slice (some ad279) l0_1.length c0_1] 26 (0, 0)) (uf0_ BK265) hb); have NB275_295 := Aside0.mk ((g22_ : gb275 ≠ gb295)); have NB295_275 := Aside0.mk ((g23_ : gb295 ≠ gb275)); replace BK275 := Aside0.mk (blk_below (g := gb275) (o := .cells #[.int .i64 x276000_2, .int .i64 x276001_2] 36 (0, 0)) (uf0_ BK275) hb); have NB286_295 := Aside0.mk ((g37_ : gb286 ≠ gb295)); have NB295_286 := Aside0.mk ((g38_ : gb295 ≠ gb286)); replace BK286 := Aside0.mk (blk_below (g := gb286) (o := .cells #[.int .i64 t283, .int .i64 t284] 36 (0, 0)) (uf0_ BK286) hb); have NB291_295 := Aside0.mk ((g137_ : gb291 ≠ gb295)); have NB295_291 := Aside0.mk ((g138_ : gb295 ≠ gb291)); replace BK291 := Aside0.mk (blk_below (g := gb291) (o := .cells #[.int .i64 t288, .int .i64 t289] 36 (0, 0)) (uf0_ BK291) hb); clear hb hbox hg; have hnb117 := NB295_265.out; have hnc117 := NB265_295.out; have hnb118 := NB295_275.out; have hnc118 := NB275_295.out; have hnb119 := NB295_286.out; have hnc119 := NB286_295.out; have hnb120 := NB295_291.out; have hnc120 := NB291_295.out; obtain ⟨hcz121_0, hcz121_1, hfz121_0, hfz121_1⟩ := blk2_ BK295))
                    go_ret2
                    exact ⟨_, g4_, g29_, impl_gets.calls_q0⟩
                  ·rw [if_neg c32] at H
                   exact absurd H (by simp)
                 ·rw [if_neg c30] at H
                  exact absurd H (by simp)
                ·rw [if_neg c29] at H
                 exact absurd H (by simp)
               ·rw [if_neg c28] at H
                exact absurd H (by simp)
              ·rw [if_neg c27] at H
               exact absurd H (by simp)
          ·rw [if_neg c21] at H
           exact absurd H (by simp)
         ·rw [if_neg c20] at H
          exact absurd H (by simp)
        ·rw [if_neg c19] at H
         have c19b0 := decide_eq_false c19
         clear c19
         by_cases c122 : x7_1.length < 8796093022208
         ·rw [if_pos c122] at H
          have LMc122 := Aside0.mk c122
          clear c122
          obtain ⟨y276, hy276⟩ : ∃ y_ : List (S36), y_ = (x7_1 ++ [(⟨x276000_2, x276001_2⟩ : S36)]) := ⟨_, rfl⟩
          replace H : (impl_gets.l0 k2 l1 t266 y276 l0_0 (l0_0.length : Int) (wrap64 (x25_1 + 1)) l0_0 l0_1) = some (r1, r2) := by first | (rw [hy276]; with_reducible exact H) | (have H2_ := (Option.bind_some _ _).symm.trans H; rw [hy276]; with_reducible exact H2_) | (have H2_ := (Option.bind_some _ _).symm.trans H; with_reducible exact H2_) | with_reducible exact H | (rw [hy276]; exact H) | exact H
          have Ny276 := Aside0.mk hy276
          clear hy276
          have H' := Aside0.mk H
          clear H
          have hnb123 := NB275_265.out
          have hnc123 := NB265_275.out
          obtain ⟨hcz124_0, hcz124_1, hfz124_0, hfz124_1⟩ := blk2_ BK275
          go_wp2_with (first | ((with_reducible refine gate_builtin (b := .append) (xs := #[.tmp 85, .tmp 87]) rfl ?_); at_builtin; refine Kd.R_append k36 (w0 := w) w.heap.size rfl (.tmp 85) (.tmp 87) 28 36 (.agg #[(.int .i64 0), (.int .i64 0)]) 16 rfl Try.underlying28 info36 rfl (by decide) (by omega) u7 x7_1 (⟨x276000_2, x276001_2⟩ : S36) [.int .i64 x276000_2, .int .i64 x276001_2] (fun k_ => k_ ≠ gb275) (fun _ => False) rfl rfl ?aP (fun _ hk => hk.elim) ?aF ?aO ?aB ?aS ?aL ?_; (case aP => exact k36_mkM _ _ _ (⟨x276000_2, x276001_2⟩ : S36)); (case aB => exact (impl_gets.calls_q0)); (case aF => exact (fun k_ hk => Kd.freshB (g := gb275) (o := .cells #[.int .i64 x276000_2, .int .i64 x276001_2] 36 (0, 0)) (uf0_ BK275) k_ hk)); (case aO => exact (uf1_ HO_7)); (case aS => exact (below_size (impl_gets.calls_q0))); (case aL => have := LMc122.out; omega); intro v277 w125 ho hb hg hat; rw [← Ny276.out] at ho; replace HO_6 := Aside0.mk (Kd.R_over' (uf1_ HO_6) (Kd.R_typed (uf1_ HO_7)) (by decide) hg); replace BK265 := Aside0.mk (blk_grown (g := gb265) (o := .cells #[.slice (some ad272) l0_0.length c0_0, .slice A0_1 l0_1.length c0_1] 26 (0, 0)) (uf0_ BK265) hg (Kd.R_ne HO_7.out BK265.out (by decide))); replace BK275 := Aside0.mk (blk_grown (g := gb275) (o := .cells #[.int .i64 x276000_2, .int .i64 x276001_2] 36 (0, 0)) (uf0_ BK275) hg (Kd.R_away HO_7.out (fun _ hk => hk))); replace HB := Aside0.mk (hb); have HO278 := Aside0.mk (ho); clear HO_7; clear ho hb hg hat))
          go_roundg k2
          case measure => have := HK1.out; have := HK2.out; omega
          case rel => exact ⟨(y276), (wrap64 (x25_1 + 1)), (g3_), H', ⟨g34_⟩, ⟨uf1_ HO_6⟩, ⟨by (with_reducible repeat (first | apply Kd.R_alloc | apply Kd.R_drewN | apply Kd.R_drew)); exact Kd.R_mono HO278.out (fun _ hk => trivial)⟩, ⟨uf0_ BK265⟩, ⟨impl_gets.calls_q0⟩⟩
         ·rw [if_neg c122] at H
          exact absurd H (by simp)
     ·rw [if_neg c12] at H
      exact absurd H (by simp)
    ·rw [if_neg c11] at H
     exact absurd H (by simp)
   ·rw [if_neg c10] at H
    have c10b0 := decide_eq_false c10
    clear c10
    simp only [Option.some.injEq, Prod.mk.injEq] at H
    obtain ⟨rfl, rfl⟩ := H
    go_wp2
    go_ret2
    exact ⟨_, g4_, uf1_ HO_7, impl_gets.calls_q0⟩
end Go.Proofs.Ytigpmfoagkhaeaa.PU
