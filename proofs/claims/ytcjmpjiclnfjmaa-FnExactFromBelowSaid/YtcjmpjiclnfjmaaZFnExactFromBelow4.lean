/- FnExactFromBelow: for every input the law holds, and each argument reads as it read before. No condition. -/
import Derived.Test.YtcjmpjiclnfjmaaZFnExactFromBelow1
import Derived.Test.YtcjmpjiclnfjmaaZFnExactFromBelow2
import Derived.Test.YtcjmpjiclnfjmaaZFnExactFromBelow3
import Derived.Below
import Derived.Deep.Draws
import Derived.Deep.AppendLies
import Derived.Maps.AppendAt
import Derived.OwnWalk
import Derived.Laws.BytesArg
import Derived.Laws.MakeOwn
import Derived.Laws.OwnMore
import Derived.Deep.OwnRows
import Derived.Tactics
import Derived.Lib.ConvBytes
import Derived.Laws.Slices
import Derived.WalkKit
import Derived.KernelRfl
import Derived.RowKit3
import Derived.Deep.LoopGhost
import Derived.Deep.QuietTactic
import Derived.BigQuiet
import Derived.WideLaws
import Derived.Deep.DeepCutAuto
import Derived.Deep.CutBlock
import Derived.Deep.RegionHeld3
import Derived.Laws.Rows
import Derived.Lib.AppendStr
import Derived.ArgAppend
import Derived.Laws.IdiomCopy
import Derived.RowKit
import Derived.OrdersHeld
import Derived.Laws.BitsLemmas
import Derived.Laws.StructEq
import Derived.Test.YtcjmpjiclnfjmaaProg
namespace Go.Proofs.Ytcjmpjiclnfjmaa.PU
open Go.RowKit Go.Proofs.YtcjmpjiclnfjmaaW.PrintWords Go.Proofs.YtcjmpjiclnfjmaaW.PrintLast Go.Proofs.YtcjmpjiclnfjmaaW.PrintMore Go.Proofs.Ytcjmpjiclnfjmaa.Qd
attribute [local go_sem] max2_int min2_int max_two min_two max_three min_three max_four min_four
set_option linter.unusedVariables false
set_option linter.unusedSimpArgs false
def impl_lowest.f (k : Nat) (a0 : Int) (a1 : Int) : Option (Int × Int × Bool) := (impl_gcd.f k a0 a1).bind fun t317 => (if a1 < 0 then (if (wrap64 (-t317)) = 0 then (none) else ((impl_isFrac.f k (wrap64 (Int.tdiv a0 (wrap64 (-t317)))) (wrap64 (Int.tdiv a1 (wrap64 (-t317))))).bind fun t319 => (if t319 = true then (some (wrap64 (Int.tdiv a0 (wrap64 (-t317))), wrap64 (Int.tdiv a1 (wrap64 (-t317))), true)) else (some (0, 0, false))))) else (if t317 = 0 then (none) else ((impl_isFrac.f k (wrap64 (Int.tdiv a0 t317)) (wrap64 (Int.tdiv a1 t317))).bind fun t321 => (if t321 = true then (some (wrap64 (Int.tdiv a0 t317), wrap64 (Int.tdiv a1 t317), true)) else (some (0, 0, false))))))
theorem impl_lowest.mq {p : Prop} (h : p := by
 repeat' first
 | (with_reducible exact impl_gcd.mono _ _ _)
 | (with_reducible exact impl_isFrac.mono _ _ _)
 | (with_reducible exact LeO.refl _)
 | (with_reducible exact LeO.none _)
 | (with_reducible refine LeO.ite ?_ ?_)
 | (with_reducible refine LeO.bind ?_ (fun _ => ?_))
 | exact impl_gcd.mono _ _ _
 | exact impl_isFrac.mono _ _ _
 | exact LeO.none _
 | refine LeO.ite ?_ ?_
 | refine LeO.bind ?_ (fun _ => ?_)) : p := h
theorem impl_lowest.mono : ∀ a0 a1 k, LeO (impl_lowest.f k a0 a1) (impl_lowest.f (k + 1) a0 a1) := by
 intro a0 a1 k
 unfold impl_lowest.f
 exact impl_lowest.mq
def impl_lowest.T4 : Bool × List (List Nat × List Nat) := (true, [([], []), ([], []), ([0, 1], [0, 1]), ([], []), ([], []), ([3, 4], [3, 4]), ([2, 5], [2, 5]), ([], []), ([7, 6, 0, 1, 2, 3, 4, 5, 6, 7], [6, 7])])
def impl_lowest.B4 : List Nat := [0, 0, 3, 0, 0, 24, 63, 0, 255]
theorem impl_lowest.tab4 : rtab .any (opsOf Try.f82 4) = impl_lowest.T4 := by kernel_rfl
theorem impl_lowest.bits4 : waitsOk impl_lowest.T4.2 impl_lowest.B4 = true := by kernel_rfl
theorem impl_lowest.calls_q0 {p : Prop} (h : p := by repeat (first | (with_reducible first | exact HB.out | apply below_alloc | apply pw_below_drewN | apply below_drew1 | refine below_set ?_ GE316.out | refine below_set ?_ GE318.out | refine below_set ?_ GE320.out) | exact HB.out)) : p := h
set_option maxHeartbeats 8000000 in
set_option maxRecDepth 100000 in
theorem impl_lowest.calls (k : Nat) (a0 : Int) (a1 : Int) (r1 : Int) (r2 : Int) (r3 : Bool) (w : World) (h : impl_lowest.f k a0 a1 = some (r1, r2, r3)) :
  Calls Try.prog 82 #[.int .i64 a0, .int .i64 a1] w fun e w' => e = .returned (.tuple #[.agg #[.int .i64 r1, .int .i64 r2], .bool r3]) ∧ Below w.heap.size w w' := by
 have hu36 := Try.underlying36
 have HB := Aside0.mk (Below.refl w.heap.size w)
 have H : ((impl_gcd.f k a0 a1).bind fun t317 => (if a1 < 0 then (if (wrap64 (-t317)) = 0 then (none) else ((impl_isFrac.f k (wrap64 (Int.tdiv a0 (wrap64 (-t317)))) (wrap64 (Int.tdiv a1 (wrap64 (-t317))))).bind fun t319 => (if t319 = true then (some (wrap64 (Int.tdiv a0 (wrap64 (-t317))), wrap64 (Int.tdiv a1 (wrap64 (-t317))), true)) else (some (0, 0, false))))) else (if t317 = 0 then (none) else ((impl_isFrac.f k (wrap64 (Int.tdiv a0 t317)) (wrap64 (Int.tdiv a1 t317))).bind fun t321 => (if t321 = true then (some (wrap64 (Int.tdiv a0 t317), wrap64 (Int.tdiv a1 t317), true)) else (some (0, 0, false))))))) = some (r1, r2, r3) := h
 clear h
 obtain ⟨t317, A3, H⟩ := bind_ H
 by_cases c4 : a1 < 0
 ·rw [if_pos c4] at H
  have c4b0 := decide_eq_true c4
  clear c4
  by_cases c5 : (wrap64 (-t317)) = 0
  ·rw [if_pos c5] at H
   exact absurd H (by simp)
  ·rw [if_neg c5] at H
   have c5b0 : ((wrap64 (-t317)) == 0) = false := beq_eq_false_iff_ne.mpr c5
   have c5b1 : ((wrap64 (-t317)) != 0) = true := bne_iff_ne.mpr c5
   obtain ⟨t319, A6, H⟩ := bind_ H
   by_cases c7 : t319 = true
   ·subst c7
    replace H := ifp_ H
    simp only [Option.some.injEq, Prod.mk.injEq] at H
    obtain ⟨rfl, rfl, rfl⟩ := H
    go_enter Try.func82, Try.ntmps82
    try go_wp2_with (first | ((with_reducible refine gate_dst (N := 4) rfl ?_); refine bx_ (N := 4) #[.int .i64 0, .int .i64 0] 36 ?_; intro gb316 hg w8 hbox hb; have BK316 := Aside0.mk (hbox); have GW316 := Aside0.mk ((g16_ : w.heap.size ≤ gb316)); have GE316 := Aside0.mk ((g16_ : w.heap.size ≤ gb316)); replace HB := Aside0.mk (below_step (impl_lowest.calls_q0) hb); clear hb hbox hg) | ((with_reducible refine gate_callee (f := 91) rfl ?_); refine goesL_ (some 10) rfl rfl Try.func91 k_ rfl #[.int .i64 a0, .int .i64 a1] rfl (g2_) ?_; (with_reducible refine (impl_gcd.calls k a0 a1 t317 _ A3.out).mono ?_); rintro e w9 ⟨rfl, hb⟩; refine ⟨_, rfl, ?_⟩; replace BK316 := bb_ BK316 hb; replace HB := Aside0.mk (below_step (impl_lowest.calls_q0) hb); (try clear hb); (try clear hk hi)))
    replace BK316 := Aside0.mk (blk_drew BK316.out)
    replace HB := Aside0.mk (below_drew1 HB.out)
    refine start_ (n := 9) (S := fun w' => True) (ds := []) (tl_ 9 0) (g0_) rfl (g0_) trivial (fun hHeld => ?_); refine with_tabW impl_lowest.tab4 impl_lowest.bits4 (fun HT_ HW_ => ?_)
    generalize w9.drew = w10 at BK316 HB hHeld ⊢
    refine pw_ 0 15 (tl_ 9 1) rfl rfl ?_
    refine pw_ 1 16 (tl_ 9 3) rfl rfl ?_
    refine pw_ 2 17 (tl_ 9 7) rfl rfl ?_
    refine pw_ 3 18 (tl_ 9 15) rfl rfl ?_
    refine pw_ 4 19 (tl_ 9 31) rfl rfl ?_
    refine pw_ 5 20 (tl_ 9 63) rfl rfl ?_
    refine pw_ 6 21 (tl_ 9 127) rfl rfl ?_
    refine one_ (i := 7) (N := some 7) (tl_ 9 255) rfl rfl (one_of HT_.out (g0_)) (by decide) (fun K hK => ?_)
    refine bs_ (N := 7) #[.int .i64 0, .int .i64 0] 36 ?_
    intro gb318 hg w11 hbox hb
    have BK318 := Aside0.mk (hbox)
    have GW318 := Aside0.mk ((g16_ : w.heap.size ≤ gb318))
    have GE318 := Aside0.mk ((g16_ : w.heap.size ≤ gb318))
    replace HB := Aside0.mk (below_step (impl_lowest.calls_q0) hb)
    have NB316_318 := Aside0.mk ((g64_ : gb316 ≠ gb318))
    have NB318_316 := Aside0.mk ((g65_ : gb318 ≠ gb316))
    replace BK316 := bb_ BK316 hb
    clear hb hbox hg
    refine hK.out _ _ trivial (fun hHeld => ?_)
    clear hK K
    refine nm_ ?_
    refine one_ (i := 8) (N := none) (tl_ 9 511) rfl rfl (one_of HT_.out (g0_)) (by decide) (fun K hK => ?_)
    have hs12 : w11.cell? ⟨gb318, 0, none⟩ = some (.int .i64 0) := (blk_cell BK318.out 0).trans rfl
    have hfs12 := blk_frozen BK318.out 0
    have hns12_0 := NB316_318.out
    have hms12_0 := NB318_316.out
    have hs13 : w11.cell? ⟨gb318, 1, none⟩ = some (.int .i64 0) := (blk_cell BK318.out 1).trans rfl
    have hfs13 := blk_frozen BK318.out 1
    have hns13_0 := NB316_318.out
    have hms13_0 := NB318_316.out
    refine skip_ (w1 := ?_) (by rfl) rfl ?_ ?_
    rotate_left
    ·go_simp
     rfl
    refine hK.out _ _ trivial (fun hHeld => ?_)
    clear hK K
    refine done_ (done_of HT_.out (g0_)) ?_
    have hnb14 := NB318_316.out
    have hnc14 := NB316_318.out
    obtain ⟨hcz15_0, hcz15_1, hfz15_0, hfz15_1⟩ := blk2_ BK318
    try go_wp2_with (first | ((with_reducible refine gate_callee (f := 73) rfl ?_); refine goesL_ (some 23) rfl rfl Try.func73 k_ rfl #[.agg #[.int .i64 (wrap64 (Int.tdiv a0 (wrap64 (-t317)))), .int .i64 (wrap64 (Int.tdiv a1 (wrap64 (-t317))))]] rfl (g2_) ?_; (with_reducible refine (impl_isFrac.calls k (wrap64 (Int.tdiv a0 (wrap64 (-t317)))) (wrap64 (Int.tdiv a1 (wrap64 (-t317)))) true _ A6.out).mono ?_); rintro e w16 ⟨rfl, hb⟩; refine ⟨_, rfl, ?_⟩; replace BK316 := Aside0.mk (blk_below (g := gb316) (o := .cells #[.int .i64 0, .int .i64 0] 36 (0, 0)) (by (with_reducible repeat (first | refine blk_drewN ?_ _ | refine blk_drew ?_ | refine blk_alloc ?_ _)); refine blk_far ?_ NB316_318.out _; (with_reducible repeat (first | refine blk_drewN ?_ _ | refine blk_drew ?_ | refine blk_alloc ?_ _)); refine blk_far ?_ NB316_318.out _; (with_reducible repeat (first | refine blk_drewN ?_ _ | refine blk_drew ?_ | refine blk_alloc ?_ _)); exact BK316.out) hb); replace BK318 := Aside0.mk (blk_below (g := gb318) (o := .cells #[.int .i64 (wrap64 (Int.tdiv a0 (wrap64 (-t317)))), .int .i64 (wrap64 (Int.tdiv a1 (wrap64 (-t317))))] 36 (0, 0)) (by (with_reducible repeat (first | refine blk_drewN ?_ _ | refine blk_drew ?_ | refine blk_alloc ?_ _)); refine blk_put (cs := #[.int .i64 (wrap64 (Int.tdiv a0 (wrap64 (-t317)))), .int .i64 0]) ?_ 1 _ rfl; (with_reducible repeat (first | refine blk_drewN ?_ _ | refine blk_drew ?_ | refine blk_alloc ?_ _)); refine blk_put (cs := #[.int .i64 0, .int .i64 0]) ?_ 0 _ rfl; (with_reducible repeat (first | refine blk_drewN ?_ _ | refine blk_drew ?_ | refine blk_alloc ?_ _)); exact BK318.out) hb); replace HB := Aside0.mk (below_step (impl_lowest.calls_q0) hb); (try clear hb); (try clear hk hi); obtain ⟨hcz17_0, hcz17_1, hfz17_0, hfz17_1⟩ := blk2_ BK318; obtain ⟨hcz18_0, hcz18_1, hfz18_0, hfz18_1⟩ := blk2_ BK316))
    refine bodyPost_ret (results_ct rfl _ _ gb316 36 #[.int .i64 (wrap64 (Int.tdiv a0 (wrap64 (-t317)))), .int .i64 (wrap64 (Int.tdiv a1 (wrap64 (-t317))))] (0, 0) _ rfl (by (with_reducible repeat (first | refine blk_drewN ?_ _ | refine blk_drew ?_ | refine blk_alloc ?_ _)); refine blk_put (cs := #[.int .i64 (wrap64 (Int.tdiv a0 (wrap64 (-t317)))), .int .i64 0]) ?_ 1 _ rfl; (with_reducible repeat (first | refine blk_drewN ?_ _ | refine blk_drew ?_ | refine blk_alloc ?_ _)); refine blk_put (cs := #[.int .i64 0, .int .i64 0]) ?_ 0 _ rfl; (with_reducible repeat (first | refine blk_drewN ?_ _ | refine blk_drew ?_ | refine blk_alloc ?_ _)); exact BK316.out) Try.underlying36 rfl (g0_)) rfl ?_
    exact ⟨g4_, impl_lowest.calls_q0⟩
   ·replace c7 := Bool.eq_false_iff.mpr c7
    subst c7
    replace H := ifn_ H
    simp only [Option.some.injEq, Prod.mk.injEq] at H
    obtain ⟨rfl, rfl, rfl⟩ := H
    go_enter Try.func82, Try.ntmps82
    try go_wp2_with (first | ((with_reducible refine gate_dst (N := 4) rfl ?_); refine bx_ (N := 4) #[.int .i64 0, .int .i64 0] 36 ?_; intro gb316 hg w19 hbox hb; have BK316 := Aside0.mk (hbox); have GW316 := Aside0.mk ((g16_ : w.heap.size ≤ gb316)); have GE316 := Aside0.mk ((g16_ : w.heap.size ≤ gb316)); replace HB := Aside0.mk (below_step (impl_lowest.calls_q0) hb); clear hb hbox hg) | ((with_reducible refine gate_callee (f := 91) rfl ?_); refine goesL_ (some 10) rfl rfl Try.func91 k_ rfl #[.int .i64 a0, .int .i64 a1] rfl (g2_) ?_; (with_reducible refine (impl_gcd.calls k a0 a1 t317 _ A3.out).mono ?_); rintro e w20 ⟨rfl, hb⟩; refine ⟨_, rfl, ?_⟩; replace BK316 := bb_ BK316 hb; replace HB := Aside0.mk (below_step (impl_lowest.calls_q0) hb); (try clear hb); (try clear hk hi)))
    replace BK316 := Aside0.mk (blk_drew BK316.out)
    replace HB := Aside0.mk (below_drew1 HB.out)
    refine start_ (n := 9) (S := fun w' => True) (ds := []) (tl_ 9 0) (g0_) rfl (g0_) trivial (fun hHeld => ?_); refine with_tabW impl_lowest.tab4 impl_lowest.bits4 (fun HT_ HW_ => ?_)
    generalize w20.drew = w21 at BK316 HB hHeld ⊢
    refine pw_ 0 15 (tl_ 9 1) rfl rfl ?_
    refine pw_ 1 16 (tl_ 9 3) rfl rfl ?_
    refine pw_ 2 17 (tl_ 9 7) rfl rfl ?_
    refine pw_ 3 18 (tl_ 9 15) rfl rfl ?_
    refine pw_ 4 19 (tl_ 9 31) rfl rfl ?_
    refine pw_ 5 20 (tl_ 9 63) rfl rfl ?_
    refine pw_ 6 21 (tl_ 9 127) rfl rfl ?_
    refine one_ (i := 7) (N := some 7) (tl_ 9 255) rfl rfl (one_of HT_.out (g0_)) (by decide) (fun K hK => ?_)
    refine bs_ (N := 7) #[.int .i64 0, .int .i64 0] 36 ?_
    intro gb318 hg w22 hbox hb
    have BK318 := Aside0.mk (hbox)
    have GW318 := Aside0.mk ((g16_ : w.heap.size ≤ gb318))
    have GE318 := Aside0.mk ((g16_ : w.heap.size ≤ gb318))
    replace HB := Aside0.mk (below_step (impl_lowest.calls_q0) hb)
    have NB316_318 := Aside0.mk ((g64_ : gb316 ≠ gb318))
    have NB318_316 := Aside0.mk ((g65_ : gb318 ≠ gb316))
    replace BK316 := bb_ BK316 hb
    clear hb hbox hg
    refine hK.out _ _ trivial (fun hHeld => ?_)
    clear hK K
    refine nm_ ?_
    refine one_ (i := 8) (N := none) (tl_ 9 511) rfl rfl (one_of HT_.out (g0_)) (by decide) (fun K hK => ?_)
    have hs23 : w22.cell? ⟨gb318, 0, none⟩ = some (.int .i64 0) := (blk_cell BK318.out 0).trans rfl
    have hfs23 := blk_frozen BK318.out 0
    have hns23_0 := NB316_318.out
    have hms23_0 := NB318_316.out
    have hs24 : w22.cell? ⟨gb318, 1, none⟩ = some (.int .i64 0) := (blk_cell BK318.out 1).trans rfl
    have hfs24 := blk_frozen BK318.out 1
    have hns24_0 := NB316_318.out
    have hms24_0 := NB318_316.out
    refine skip_ (w1 := ?_) (by rfl) rfl ?_ ?_
    rotate_left
    ·go_simp
     rfl
    refine hK.out _ _ trivial (fun hHeld => ?_)
    clear hK K
    refine done_ (done_of HT_.out (g0_)) ?_
    have hnb25 := NB318_316.out
    have hnc25 := NB316_318.out
    obtain ⟨hcz26_0, hcz26_1, hfz26_0, hfz26_1⟩ := blk2_ BK318
    try go_wp2_with (first | ((with_reducible refine gate_callee (f := 73) rfl ?_); refine goesL_ (some 23) rfl rfl Try.func73 k_ rfl #[.agg #[.int .i64 (wrap64 (Int.tdiv a0 (wrap64 (-t317)))), .int .i64 (wrap64 (Int.tdiv a1 (wrap64 (-t317))))]] rfl (g2_) ?_; (with_reducible refine (impl_isFrac.calls k (wrap64 (Int.tdiv a0 (wrap64 (-t317)))) (wrap64 (Int.tdiv a1 (wrap64 (-t317)))) false _ A6.out).mono ?_); rintro e w27 ⟨rfl, hb⟩; refine ⟨_, rfl, ?_⟩; replace BK316 := Aside0.mk (blk_below (g := gb316) (o := .cells #[.int .i64 0, .int .i64 0] 36 (0, 0)) (by (with_reducible repeat (first | refine blk_drewN ?_ _ | refine blk_drew ?_ | refine blk_alloc ?_ _)); refine blk_far ?_ NB316_318.out _; (with_reducible repeat (first | refine blk_drewN ?_ _ | refine blk_drew ?_ | refine blk_alloc ?_ _)); refine blk_far ?_ NB316_318.out _; (with_reducible repeat (first | refine blk_drewN ?_ _ | refine blk_drew ?_ | refine blk_alloc ?_ _)); exact BK316.out) hb); replace BK318 := Aside0.mk (blk_below (g := gb318) (o := .cells #[.int .i64 (wrap64 (Int.tdiv a0 (wrap64 (-t317)))), .int .i64 (wrap64 (Int.tdiv a1 (wrap64 (-t317))))] 36 (0, 0)) (by (with_reducible repeat (first | refine blk_drewN ?_ _ | refine blk_drew ?_ | refine blk_alloc ?_ _)); refine blk_put (cs := #[.int .i64 (wrap64 (Int.tdiv a0 (wrap64 (-t317)))), .int .i64 0]) ?_ 1 _ rfl; (with_reducible repeat (first | refine blk_drewN ?_ _ | refine blk_drew ?_ | refine blk_alloc ?_ _)); refine blk_put (cs := #[.int .i64 0, .int .i64 0]) ?_ 0 _ rfl; (with_reducible repeat (first | refine blk_drewN ?_ _ | refine blk_drew ?_ | refine blk_alloc ?_ _)); exact BK318.out) hb); replace HB := Aside0.mk (below_step (impl_lowest.calls_q0) hb); (try clear hb); (try clear hk hi); obtain ⟨hcz28_0, hcz28_1, hfz28_0, hfz28_1⟩ := blk2_ BK316))
    refine bodyPost_ret (results_ct rfl _ _ gb316 36 #[.int .i64 0, .int .i64 0] (0, 0) _ rfl (by (with_reducible repeat (first | refine blk_drewN ?_ _ | refine blk_drew ?_ | refine blk_alloc ?_ _)); refine blk_put (cs := #[.int .i64 0, .int .i64 0]) ?_ 1 _ rfl; (with_reducible repeat (first | refine blk_drewN ?_ _ | refine blk_drew ?_ | refine blk_alloc ?_ _)); refine blk_put (cs := #[.int .i64 0, .int .i64 0]) ?_ 0 _ rfl; (with_reducible repeat (first | refine blk_drewN ?_ _ | refine blk_drew ?_ | refine blk_alloc ?_ _)); exact BK316.out) Try.underlying36 rfl (g0_)) rfl ?_
    exact ⟨g4_, impl_lowest.calls_q0⟩
 ·rw [if_neg c4] at H
  have c4b0 := decide_eq_false c4
  clear c4
  by_cases c29 : t317 = 0
  ·rw [if_pos c29] at H
   exact absurd H (by simp)
  ·rw [if_neg c29] at H
   have c29b0 : (t317 == 0) = false := beq_eq_false_iff_ne.mpr c29
   have c29b1 : (t317 != 0) = true := bne_iff_ne.mpr c29
   obtain ⟨t321, A30, H⟩ := bind_ H
   by_cases c31 : t321 = true
   ·subst c31
    replace H := ifp_ H
    simp only [Option.some.injEq, Prod.mk.injEq] at H
    obtain ⟨rfl, rfl, rfl⟩ := H
    go_enter Try.func82, Try.ntmps82
    try go_wp2_with (first | ((with_reducible refine gate_dst (N := 4) rfl ?_); refine bx_ (N := 4) #[.int .i64 0, .int .i64 0] 36 ?_; intro gb316 hg w32 hbox hb; have BK316 := Aside0.mk (hbox); have GW316 := Aside0.mk ((g16_ : w.heap.size ≤ gb316)); have GE316 := Aside0.mk ((g16_ : w.heap.size ≤ gb316)); replace HB := Aside0.mk (below_step (impl_lowest.calls_q0) hb); clear hb hbox hg) | ((with_reducible refine gate_callee (f := 91) rfl ?_); refine goesL_ (some 10) rfl rfl Try.func91 k_ rfl #[.int .i64 a0, .int .i64 a1] rfl (g2_) ?_; (with_reducible refine (impl_gcd.calls k a0 a1 t317 _ A3.out).mono ?_); rintro e w33 ⟨rfl, hb⟩; refine ⟨_, rfl, ?_⟩; replace BK316 := bb_ BK316 hb; replace HB := Aside0.mk (below_step (impl_lowest.calls_q0) hb); (try clear hb); (try clear hk hi)))
    replace BK316 := Aside0.mk (blk_drew BK316.out)
    replace HB := Aside0.mk (below_drew1 HB.out)
    refine start_ (n := 9) (S := fun w' => True) (ds := []) (tl_ 9 0) (g0_) rfl (g0_) trivial (fun hHeld => ?_); refine with_tabW impl_lowest.tab4 impl_lowest.bits4 (fun HT_ HW_ => ?_)
    generalize w33.drew = w34 at BK316 HB hHeld ⊢
    refine pw_ 0 15 (tl_ 9 1) rfl rfl ?_
    refine pw_ 1 16 (tl_ 9 3) rfl rfl ?_
    refine pw_ 2 17 (tl_ 9 7) rfl rfl ?_
    refine pw_ 3 18 (tl_ 9 15) rfl rfl ?_
    refine pw_ 4 19 (tl_ 9 31) rfl rfl ?_
    refine pw_ 5 20 (tl_ 9 63) rfl rfl ?_
    refine pw_ 6 21 (tl_ 9 127) rfl rfl ?_
    refine one_ (i := 7) (N := some 7) (tl_ 9 255) rfl rfl (one_of HT_.out (g0_)) (by decide) (fun K hK => ?_)
    refine bs_ (N := 7) #[.int .i64 0, .int .i64 0] 36 ?_
    intro gb320 hg w35 hbox hb
    have BK320 := Aside0.mk (hbox)
    have GW320 := Aside0.mk ((g16_ : w.heap.size ≤ gb320))
    have GE320 := Aside0.mk ((g16_ : w.heap.size ≤ gb320))
    replace HB := Aside0.mk (below_step (impl_lowest.calls_q0) hb)
    have NB316_320 := Aside0.mk ((g64_ : gb316 ≠ gb320))
    have NB320_316 := Aside0.mk ((g65_ : gb320 ≠ gb316))
    replace BK316 := bb_ BK316 hb
    clear hb hbox hg
    refine hK.out _ _ trivial (fun hHeld => ?_)
    clear hK K
    refine nm_ ?_
    refine one_ (i := 8) (N := none) (tl_ 9 511) rfl rfl (one_of HT_.out (g0_)) (by decide) (fun K hK => ?_)
    have hs36 : w35.cell? ⟨gb320, 0, none⟩ = some (.int .i64 0) := (blk_cell BK320.out 0).trans rfl
    have hfs36 := blk_frozen BK320.out 0
    have hns36_0 := NB316_320.out
    have hms36_0 := NB320_316.out
    have hs37 : w35.cell? ⟨gb320, 1, none⟩ = some (.int .i64 0) := (blk_cell BK320.out 1).trans rfl
    have hfs37 := blk_frozen BK320.out 1
    have hns37_0 := NB316_320.out
    have hms37_0 := NB320_316.out
    refine skip_ (w1 := ?_) (by rfl) rfl ?_ ?_
    rotate_left
    ·go_simp
     rfl
    refine hK.out _ _ trivial (fun hHeld => ?_)
    clear hK K
    refine done_ (done_of HT_.out (g0_)) ?_
    have hnb38 := NB320_316.out
    have hnc38 := NB316_320.out
    obtain ⟨hcz39_0, hcz39_1, hfz39_0, hfz39_1⟩ := blk2_ BK320
    try go_wp2_with (first | ((with_reducible refine gate_callee (f := 73) rfl ?_); refine goesL_ (some 23) rfl rfl Try.func73 k_ rfl #[.agg #[.int .i64 (wrap64 (Int.tdiv a0 t317)), .int .i64 (wrap64 (Int.tdiv a1 t317))]] rfl (g2_) ?_; (with_reducible refine (impl_isFrac.calls k (wrap64 (Int.tdiv a0 t317)) (wrap64 (Int.tdiv a1 t317)) true _ A30.out).mono ?_); rintro e w40 ⟨rfl, hb⟩; refine ⟨_, rfl, ?_⟩; replace BK316 := Aside0.mk (blk_below (g := gb316) (o := .cells #[.int .i64 0, .int .i64 0] 36 (0, 0)) (by (with_reducible repeat (first | refine blk_drewN ?_ _ | refine blk_drew ?_ | refine blk_alloc ?_ _)); refine blk_far ?_ NB316_320.out _; (with_reducible repeat (first | refine blk_drewN ?_ _ | refine blk_drew ?_ | refine blk_alloc ?_ _)); refine blk_far ?_ NB316_320.out _; (with_reducible repeat (first | refine blk_drewN ?_ _ | refine blk_drew ?_ | refine blk_alloc ?_ _)); exact BK316.out) hb); replace BK320 := Aside0.mk (blk_below (g := gb320) (o := .cells #[.int .i64 (wrap64 (Int.tdiv a0 t317)), .int .i64 (wrap64 (Int.tdiv a1 t317))] 36 (0, 0)) (by (with_reducible repeat (first | refine blk_drewN ?_ _ | refine blk_drew ?_ | refine blk_alloc ?_ _)); refine blk_put (cs := #[.int .i64 (wrap64 (Int.tdiv a0 t317)), .int .i64 0]) ?_ 1 _ rfl; (with_reducible repeat (first | refine blk_drewN ?_ _ | refine blk_drew ?_ | refine blk_alloc ?_ _)); refine blk_put (cs := #[.int .i64 0, .int .i64 0]) ?_ 0 _ rfl; (with_reducible repeat (first | refine blk_drewN ?_ _ | refine blk_drew ?_ | refine blk_alloc ?_ _)); exact BK320.out) hb); replace HB := Aside0.mk (below_step (impl_lowest.calls_q0) hb); (try clear hb); (try clear hk hi); obtain ⟨hcz41_0, hcz41_1, hfz41_0, hfz41_1⟩ := blk2_ BK320; obtain ⟨hcz42_0, hcz42_1, hfz42_0, hfz42_1⟩ := blk2_ BK316))
    refine bodyPost_ret (results_ct rfl _ _ gb316 36 #[.int .i64 (wrap64 (Int.tdiv a0 t317)), .int .i64 (wrap64 (Int.tdiv a1 t317))] (0, 0) _ rfl (by (with_reducible repeat (first | refine blk_drewN ?_ _ | refine blk_drew ?_ | refine blk_alloc ?_ _)); refine blk_put (cs := #[.int .i64 (wrap64 (Int.tdiv a0 t317)), .int .i64 0]) ?_ 1 _ rfl; (with_reducible repeat (first | refine blk_drewN ?_ _ | refine blk_drew ?_ | refine blk_alloc ?_ _)); refine blk_put (cs := #[.int .i64 0, .int .i64 0]) ?_ 0 _ rfl; (with_reducible repeat (first | refine blk_drewN ?_ _ | refine blk_drew ?_ | refine blk_alloc ?_ _)); exact BK316.out) Try.underlying36 rfl (g0_)) rfl ?_
    exact ⟨g4_, impl_lowest.calls_q0⟩
   ·replace c31 := Bool.eq_false_iff.mpr c31
    subst c31
    replace H := ifn_ H
    simp only [Option.some.injEq, Prod.mk.injEq] at H
    obtain ⟨rfl, rfl, rfl⟩ := H
    go_enter Try.func82, Try.ntmps82
    try go_wp2_with (first | ((with_reducible refine gate_dst (N := 4) rfl ?_); refine bx_ (N := 4) #[.int .i64 0, .int .i64 0] 36 ?_; intro gb316 hg w43 hbox hb; have BK316 := Aside0.mk (hbox); have GW316 := Aside0.mk ((g16_ : w.heap.size ≤ gb316)); have GE316 := Aside0.mk ((g16_ : w.heap.size ≤ gb316)); replace HB := Aside0.mk (below_step (impl_lowest.calls_q0) hb); clear hb hbox hg) | ((with_reducible refine gate_callee (f := 91) rfl ?_); refine goesL_ (some 10) rfl rfl Try.func91 k_ rfl #[.int .i64 a0, .int .i64 a1] rfl (g2_) ?_; (with_reducible refine (impl_gcd.calls k a0 a1 t317 _ A3.out).mono ?_); rintro e w44 ⟨rfl, hb⟩; refine ⟨_, rfl, ?_⟩; replace BK316 := bb_ BK316 hb; replace HB := Aside0.mk (below_step (impl_lowest.calls_q0) hb); (try clear hb); (try clear hk hi)))
    replace BK316 := Aside0.mk (blk_drew BK316.out)
    replace HB := Aside0.mk (below_drew1 HB.out)
    refine start_ (n := 9) (S := fun w' => True) (ds := []) (tl_ 9 0) (g0_) rfl (g0_) trivial (fun hHeld => ?_); refine with_tabW impl_lowest.tab4 impl_lowest.bits4 (fun HT_ HW_ => ?_)
    generalize w44.drew = w45 at BK316 HB hHeld ⊢
    refine pw_ 0 15 (tl_ 9 1) rfl rfl ?_
    refine pw_ 1 16 (tl_ 9 3) rfl rfl ?_
    refine pw_ 2 17 (tl_ 9 7) rfl rfl ?_
    refine pw_ 3 18 (tl_ 9 15) rfl rfl ?_
    refine pw_ 4 19 (tl_ 9 31) rfl rfl ?_
    refine pw_ 5 20 (tl_ 9 63) rfl rfl ?_
    refine pw_ 6 21 (tl_ 9 127) rfl rfl ?_
    refine one_ (i := 7) (N := some 7) (tl_ 9 255) rfl rfl (one_of HT_.out (g0_)) (by decide) (fun K hK => ?_)
    refine bs_ (N := 7) #[.int .i64 0, .int .i64 0] 36 ?_
    intro gb320 hg w46 hbox hb
    have BK320 := Aside0.mk (hbox)
    have GW320 := Aside0.mk ((g16_ : w.heap.size ≤ gb320))
    have GE320 := Aside0.mk ((g16_ : w.heap.size ≤ gb320))
    replace HB := Aside0.mk (below_step (impl_lowest.calls_q0) hb)
    have NB316_320 := Aside0.mk ((g64_ : gb316 ≠ gb320))
    have NB320_316 := Aside0.mk ((g65_ : gb320 ≠ gb316))
    replace BK316 := bb_ BK316 hb
    clear hb hbox hg
    refine hK.out _ _ trivial (fun hHeld => ?_)
    clear hK K
    refine nm_ ?_
    refine one_ (i := 8) (N := none) (tl_ 9 511) rfl rfl (one_of HT_.out (g0_)) (by decide) (fun K hK => ?_)
    have hs47 : w46.cell? ⟨gb320, 0, none⟩ = some (.int .i64 0) := (blk_cell BK320.out 0).trans rfl
    have hfs47 := blk_frozen BK320.out 0
    have hns47_0 := NB316_320.out
    have hms47_0 := NB320_316.out
    have hs48 : w46.cell? ⟨gb320, 1, none⟩ = some (.int .i64 0) := (blk_cell BK320.out 1).trans rfl
    have hfs48 := blk_frozen BK320.out 1
    have hns48_0 := NB316_320.out
    have hms48_0 := NB320_316.out
    refine skip_ (w1 := ?_) (by rfl) rfl ?_ ?_
    rotate_left
    ·go_simp
     rfl
    refine hK.out _ _ trivial (fun hHeld => ?_)
    clear hK K
    refine done_ (done_of HT_.out (g0_)) ?_
    have hnb49 := NB320_316.out
    have hnc49 := NB316_320.out
    obtain ⟨hcz50_0, hcz50_1, hfz50_0, hfz50_1⟩ := blk2_ BK320
    try go_wp2_with (first | ((with_reducible refine gate_callee (f := 73) rfl ?_); refine goesL_ (some 23) rfl rfl Try.func73 k_ rfl #[.agg #[.int .i64 (wrap64 (Int.tdiv a0 t317)), .int .i64 (wrap64 (Int.tdiv a1 t317))]] rfl (g2_) ?_; (with_reducible refine (impl_isFrac.calls k (wrap64 (Int.tdiv a0 t317)) (wrap64 (Int.tdiv a1 t317)) false _ A30.out).mono ?_); rintro e w51 ⟨rfl, hb⟩; refine ⟨_, rfl, ?_⟩; replace BK316 := Aside0.mk (blk_below (g := gb316) (o := .cells #[.int .i64 0, .int .i64 0] 36 (0, 0)) (by (with_reducible repeat (first | refine blk_drewN ?_ _ | refine blk_drew ?_ | refine blk_alloc ?_ _)); refine blk_far ?_ NB316_320.out _; (with_reducible repeat (first | refine blk_drewN ?_ _ | refine blk_drew ?_ | refine blk_alloc ?_ _)); refine blk_far ?_ NB316_320.out _; (with_reducible repeat (first | refine blk_drewN ?_ _ | refine blk_drew ?_ | refine blk_alloc ?_ _)); exact BK316.out) hb); replace BK320 := Aside0.mk (blk_below (g := gb320) (o := .cells #[.int .i64 (wrap64 (Int.tdiv a0 t317)), .int .i64 (wrap64 (Int.tdiv a1 t317))] 36 (0, 0)) (by (with_reducible repeat (first | refine blk_drewN ?_ _ | refine blk_drew ?_ | refine blk_alloc ?_ _)); refine blk_put (cs := #[.int .i64 (wrap64 (Int.tdiv a0 t317)), .int .i64 0]) ?_ 1 _ rfl; (with_reducible repeat (first | refine blk_drewN ?_ _ | refine blk_drew ?_ | refine blk_alloc ?_ _)); refine blk_put (cs := #[.int .i64 0, .int .i64 0]) ?_ 0 _ rfl; (with_reducible repeat (first | refine blk_drewN ?_ _ | refine blk_drew ?_ | refine blk_alloc ?_ _)); exact BK320.out) hb); replace HB := Aside0.mk (below_step (impl_lowest.calls_q0) hb); (try clear hb); (try clear hk hi); obtain ⟨hcz52_0, hcz52_1, hfz52_0, hfz52_1⟩ := blk2_ BK316))
    refine bodyPost_ret (results_ct rfl _ _ gb316 36 #[.int .i64 0, .int .i64 0] (0, 0) _ rfl (by (with_reducible repeat (first | refine blk_drewN ?_ _ | refine blk_drew ?_ | refine blk_alloc ?_ _)); refine blk_put (cs := #[.int .i64 0, .int .i64 0]) ?_ 1 _ rfl; (with_reducible repeat (first | refine blk_drewN ?_ _ | refine blk_drew ?_ | refine blk_alloc ?_ _)); refine blk_put (cs := #[.int .i64 0, .int .i64 0]) ?_ 0 _ rfl; (with_reducible repeat (first | refine blk_drewN ?_ _ | refine blk_drew ?_ | refine blk_alloc ?_ _)); exact BK316.out) Try.underlying36 rfl (g0_)) rfl ?_
    exact ⟨g4_, impl_lowest.calls_q0⟩
def impl_plus.f (k : Nat) (a0_0 : Int) (a0_1 : Int) (a1_0 : Int) (a1_1 : Int) : Option (Int × Int × Bool) := (impl_lowest.f k (wrap64 ((wrap64 (a0_0 * a1_1)) + (wrap64 (a1_0 * a0_1)))) (wrap64 (a0_1 * a1_1))).bind fun bt325 => (some (bt325.1, bt325.2.1, bt325.2.2))
theorem impl_plus.mq {p : Prop} (h : p := by
 repeat' first
 | (with_reducible exact impl_lowest.mono _ _ _)
 | (with_reducible exact LeO.refl _)
 | (with_reducible exact LeO.none _)
 | (with_reducible refine LeO.ite ?_ ?_)
 | (with_reducible refine LeO.bind ?_ (fun _ => ?_))
 | exact impl_lowest.mono _ _ _
 | exact LeO.none _
 | refine LeO.ite ?_ ?_
 | refine LeO.bind ?_ (fun _ => ?_)) : p := h
theorem impl_plus.mono : ∀ a0 a1 a2 a3 k, LeO (impl_plus.f k a0 a1 a2 a3) (impl_plus.f (k + 1) a0 a1 a2 a3) := by
 intro a0 a1 a2 a3 k
 unfold impl_plus.f
 exact impl_plus.mq
theorem impl_plus.calls_q0 {p : Prop} (h : p := by repeat (first | (with_reducible first | exact HB.out | apply below_alloc | apply pw_below_drewN | apply below_drew1 | refine below_set ?_ GE322.out | refine below_set ?_ GE323.out | refine below_set ?_ GE324.out) | exact HB.out)) : p := h
set_option maxHeartbeats 8000000 in
set_option maxRecDepth 100000 in
theorem impl_plus.calls (k : Nat) (a0_0 : Int) (a0_1 : Int) (a1_0 : Int) (a1_1 : Int) (r1 : Int) (r2 : Int) (r3 : Bool) (w : World) (h : impl_plus.f k a0_0 a0_1 a1_0 a1_1 = some (r1, r2, r3)) :
  Calls Try.prog 70 #[.agg #[.int .i64 a0_0, .int .i64 a0_1], .agg #[.int .i64 a1_0, .int .i64 a1_1]] w fun e w' => e = .returned (.tuple #[.agg #[.int .i64 r1, .int .i64 r2], .bool r3]) ∧ Below w.heap.size w w' := by
 have hu36 := Try.underlying36
 have HB := Aside0.mk (Below.refl w.heap.size w)
 have H : ((impl_lowest.f k (wrap64 ((wrap64 (a0_0 * a1_1)) + (wrap64 (a1_0 * a0_1)))) (wrap64 (a0_1 * a1_1))).bind fun bt325 => (some (bt325.1, bt325.2.1, bt325.2.2))) = some (r1, r2, r3) := h
 clear h
 replace H := Option.bind_eq_some_iff.mp H
 obtain ⟨⟨t325, t326, t327⟩, A30, H⟩ := H
 replace H : (some (t325, t326, t327)) = some (r1, r2, r3) := H
 have A3 := Aside0.mk A30
 clear A30
 simp only [Option.some.injEq, Prod.mk.injEq] at H
 obtain ⟨rfl, rfl, rfl⟩ := H
 go_enter Try.func70, Try.ntmps70
 go_wp2_with (first | ((with_reducible refine gate_dst (N := 2) rfl ?_); refine bx_ (N := 2) #[.int .i64 a0_0, .int .i64 a0_1] 36 ?_; intro gb322 hg w4 hbox hb; have BK322 := Aside0.mk (hbox); have GW322 := Aside0.mk ((g49_ : w.heap.size ≤ gb322)); have GE322 := Aside0.mk ((g49_ : w.heap.size ≤ gb322)); replace HB := Aside0.mk (below_step (impl_plus.calls_q0) hb); clear hb hbox hg) | ((with_reducible refine gate_dst (N := 3) rfl ?_); refine bx_ (N := 3) #[.int .i64 a1_0, .int .i64 a1_1] 36 ?_; intro gb323 hg w5 hbox hb; have BK323 := Aside0.mk (hbox); have GW323 := Aside0.mk ((g49_ : w.heap.size ≤ gb323)); have GE323 := Aside0.mk ((g49_ : w.heap.size ≤ gb323)); replace HB := Aside0.mk (below_step (impl_plus.calls_q0) hb); have NB322_323 := Aside0.mk ((by rw [hg]; exact Nat.ne_of_lt (blk_lt (g := gb322) (o := .cells #[.int .i64 a0_0, .int .i64 a0_1] 36 (0, 0)) (uf3_ BK322)) : gb322 ≠ gb323)); have NB323_322 := Aside0.mk ((by rw [hg]; exact Nat.ne_of_gt (blk_lt (g := gb322) (o := .cells #[.int .i64 a0_0, .int .i64 a0_1] 36 (0, 0)) (uf3_ BK322)) : gb323 ≠ gb322)); replace BK322 := bb_ BK322 hb; clear hb hbox hg) | ((with_reducible refine gate_dst (N := 4) rfl ?_); refine bx_ (N := 4) #[.int .i64 0, .int .i64 0] 36 ?_; intro gb324 hg w6 hbox hb; have BK324 := Aside0.mk (hbox); have GW324 := Aside0.mk ((g49_ : w.heap.size ≤ gb324)); have GE324 := Aside0.mk ((g49_ : w.heap.size ≤ gb324)); replace HB := Aside0.mk (below_step (impl_plus.calls_q0) hb); have NB322_324 := Aside0.mk ((by rw [hg]; exact Nat.ne_of_lt (blk_lt (g := gb322) (o := .cells #[.int .i64 a0_0, .int .i64 a0_1] 36 (0, 0)) (uf3_ BK322)) : gb322 ≠ gb324)); have NB324_322 := Aside0.mk ((by rw [hg]; exact Nat.ne_of_gt (blk_lt (g := gb322) (o := .cells #[.int .i64 a0_0, .int .i64 a0_1] 36 (0, 0)) (uf3_ BK322)) : gb324 ≠ gb322)); replace BK322 := bb_ BK322 hb; have NB323_324 := Aside0.mk ((by rw [hg]; exact Nat.ne_of_lt (blk_lt (g := gb323) (o := .cells #[.int .i64 a1_0, .int .i64 a1_1] 36 (0, 0)) (uf3_ BK323)) : gb323 ≠ gb324)); have NB324_323 := Aside0.mk ((by rw [hg]; exact Nat.ne_of_gt (blk_lt (g := gb323) (o := .cells #[.int .i64 a1_0, .int .i64 a1_1] 36 (0, 0)) (uf3_ BK323)) : gb324 ≠ gb323)); replace BK323 := bb_ BK323 hb; clear hb hbox hg; have hnb7 := NB322_323.out; have hnc7 := NB323_322.out; have hnb8 := NB322_324.out; have hnc8 := NB324_322.out; obtain ⟨hcz9_0, hcz9_1, hfz9_0, hfz9_1⟩ := blk2_ BK322; have hnb10 := NB323_324.out; have hnc10 := NB324_323.out; obtain ⟨hcz11_0, hcz11_1, hfz11_0, hfz11_1⟩ := blk2_ BK323) | ((with_reducible refine gate_callee (f := 82) rfl ?_); refine goesL_ (some 22) rfl rfl Try.func82 k_ rfl #[.int .i64 (wrap64 ((wrap64 (a0_0 * a1_1)) + (wrap64 (a1_0 * a0_1)))), .int .i64 (wrap64 (a0_1 * a1_1))] rfl (g2_) ?_; (with_reducible refine (impl_lowest.calls k (wrap64 ((wrap64 (a0_0 * a1_1)) + (wrap64 (a1_0 * a0_1)))) (wrap64 (a0_1 * a1_1)) t325 t326 t327 _ A3.out).mono ?_); rintro e w12 ⟨rfl, hb⟩; refine ⟨_, rfl, ?_⟩; replace BK322 := bb_ BK322 hb; replace BK323 := bb_ BK323 hb; replace BK324 := bb_ BK324 hb; replace HB := Aside0.mk (below_step (impl_plus.calls_q0) hb); (try clear hb); (try clear hk hi); obtain ⟨hcz13_0, hcz13_1, hfz13_0, hfz13_1⟩ := blk2_ BK324))
 refine bodyPost_ret (results_ct rfl _ _ gb324 36 #[.int .i64 t325, .int .i64 t326] (0, 0) _ rfl (by (with_reducible repeat (first | refine blk_drewN ?_ _ | refine blk_drew ?_ | refine blk_alloc ?_ _)); refine blk_put (cs := #[.int .i64 t325, .int .i64 0]) ?_ 1 _ rfl; (with_reducible repeat (first | refine blk_drewN ?_ _ | refine blk_drew ?_ | refine blk_alloc ?_ _)); refine blk_put (cs := #[.int .i64 0, .int .i64 0]) ?_ 0 _ rfl; (with_reducible repeat (first | refine blk_drewN ?_ _ | refine blk_drew ?_ | refine blk_alloc ?_ _)); exact BK324.out) Try.underlying36 rfl (g0_)) rfl ?_
 exact ⟨g4_, impl_plus.calls_q0⟩
def impl_times.f (k : Nat) (a0_0 : Int) (a0_1 : Int) (a1_0 : Int) (a1_1 : Int) : Option (Int × Int × Bool) := (impl_lowest.f k (wrap64 (a0_0 * a1_0)) (wrap64 (a0_1 * a1_1))).bind fun bt339 => (some (bt339.1, bt339.2.1, bt339.2.2))
theorem impl_times.mq {p : Prop} (h : p := by
 repeat' first
 | (with_reducible exact impl_lowest.mono _ _ _)
 | (with_reducible exact LeO.refl _)
 | (with_reducible exact LeO.none _)
 | (with_reducible refine LeO.ite ?_ ?_)
 | (with_reducible refine LeO.bind ?_ (fun _ => ?_))
 | exact impl_lowest.mono _ _ _
 | exact LeO.none _
 | refine LeO.ite ?_ ?_
 | refine LeO.bind ?_ (fun _ => ?_)) : p := h
theorem impl_times.mono : ∀ a0 a1 a2 a3 k, LeO (impl_times.f k a0 a1 a2 a3) (impl_times.f (k + 1) a0 a1 a2 a3) := by
 intro a0 a1 a2 a3 k
 unfold impl_times.f
 exact impl_times.mq
theorem impl_times.calls_q0 {p : Prop} (h : p := by repeat (first | (with_reducible first | exact HB.out | apply below_alloc | apply pw_below_drewN | apply below_drew1 | refine below_set ?_ GE336.out | refine below_set ?_ GE337.out | refine below_set ?_ GE338.out) | exact HB.out)) : p := h
set_option maxHeartbeats 8000000 in
set_option maxRecDepth 100000 in
theorem impl_times.calls (k : Nat) (a0_0 : Int) (a0_1 : Int) (a1_0 : Int) (a1_1 : Int) (r1 : Int) (r2 : Int) (r3 : Bool) (w : World) (h : impl_times.f k a0_0 a0_1 a1_0 a1_1 = some (r1, r2, r3)) :
  Calls Try.prog 83 #[.agg #[.int .i64 a0_0, .int .i64 a0_1], .agg #[.int .i64 a1_0, .int .i64 a1_1]] w fun e w' => e = .returned (.tuple #[.agg #[.int .i64 r1, .int .i64 r2], .bool r3]) ∧ Below w.heap.size w w' := by
 have hu36 := Try.underlying36
 have HB := Aside0.mk (Below.refl w.heap.size w)
 have H : ((impl_lowest.f k (wrap64 (a0_0 * a1_0)) (wrap64 (a0_1 * a1_1))).bind fun bt339 => (some (bt339.1, bt339.2.1, bt339.2.2))) = some (r1, r2, r3) := h
 clear h
 replace H := Option.bind_eq_some_iff.mp H
 obtain ⟨⟨t339, t340, t341⟩, A30, H⟩ := H
 replace H : (some (t339, t340, t341)) = some (r1, r2, r3) := H
 have A3 := Aside0.mk A30
 clear A30
 simp only [Option.some.injEq, Prod.mk.injEq] at H
 obtain ⟨rfl, rfl, rfl⟩ := H
 go_enter Try.func83, Try.ntmps83
 go_wp2_with (first | ((with_reducible refine gate_dst (N := 2) rfl ?_); refine bx_ (N := 2) #[.int .i64 a0_0, .int .i64 a0_1] 36 ?_; intro gb336 hg w4 hbox hb; have BK336 := Aside0.mk (hbox); have GW336 := Aside0.mk ((g50_ : w.heap.size ≤ gb336)); have GE336 := Aside0.mk ((g50_ : w.heap.size ≤ gb336)); replace HB := Aside0.mk (below_step (impl_times.calls_q0) hb); clear hb hbox hg) | ((with_reducible refine gate_dst (N := 3) rfl ?_); refine bx_ (N := 3) #[.int .i64 a1_0, .int .i64 a1_1] 36 ?_; intro gb337 hg w5 hbox hb; have BK337 := Aside0.mk (hbox); have GW337 := Aside0.mk ((g50_ : w.heap.size ≤ gb337)); have GE337 := Aside0.mk ((g50_ : w.heap.size ≤ gb337)); replace HB := Aside0.mk (below_step (impl_times.calls_q0) hb); have NB336_337 := Aside0.mk ((by rw [hg]; exact Nat.ne_of_lt (blk_lt (g := gb336) (o := .cells #[.int .i64 a0_0, .int .i64 a0_1] 36 (0, 0)) (uf3_ BK336)) : gb336 ≠ gb337)); have NB337_336 := Aside0.mk ((by rw [hg]; exact Nat.ne_of_gt (blk_lt (g := gb336) (o := .cells #[.int .i64 a0_0, .int .i64 a0_1] 36 (0, 0)) (uf3_ BK336)) : gb337 ≠ gb336)); replace BK336 := bb_ BK336 hb; clear hb hbox hg) | ((with_reducible refine gate_dst (N := 4) rfl ?_); refine bx_ (N := 4) #[.int .i64 0, .int .i64 0] 36 ?_; intro gb338 hg w6 hbox hb; have BK338 := Aside0.mk (hbox); have GW338 := Aside0.mk ((g50_ : w.heap.size ≤ gb338)); have GE338 := Aside0.mk ((g50_ : w.heap.size ≤ gb338)); replace HB := Aside0.mk (below_step (impl_times.calls_q0) hb); have NB336_338 := Aside0.mk ((by rw [hg]; exact Nat.ne_of_lt (blk_lt (g := gb336) (o := .cells #[.int .i64 a0_0, .int .i64 a0_1] 36 (0, 0)) (uf3_ BK336)) : gb336 ≠ gb338)); have NB338_336 := Aside0.mk ((by rw [hg]; exact Nat.ne_of_gt (blk_lt (g := gb336) (o := .cells #[.int .i64 a0_0, .int .i64 a0_1] 36 (0, 0)) (uf3_ BK336)) : gb338 ≠ gb336)); replace BK336 := bb_ BK336 hb; have NB337_338 := Aside0.mk ((by rw [hg]; exact Nat.ne_of_lt (blk_lt (g := gb337) (o := .cells #[.int .i64 a1_0, .int .i64 a1_1] 36 (0, 0)) (uf3_ BK337)) : gb337 ≠ gb338)); have NB338_337 := Aside0.mk ((by rw [hg]; exact Nat.ne_of_gt (blk_lt (g := gb337) (o := .cells #[.int .i64 a1_0, .int .i64 a1_1] 36 (0, 0)) (uf3_ BK337)) : gb338 ≠ gb337)); replace BK337 := bb_ BK337 hb; clear hb hbox hg; have hnb7 := NB336_337.out; have hnc7 := NB337_336.out; have hnb8 := NB336_338.out; have hnc8 := NB338_336.out; obtain ⟨hcz9_0, hcz9_1, hfz9_0, hfz9_1⟩ := blk2_ BK336; have hnb10 := NB337_338.out; have hnc10 := NB338_337.out; obtain ⟨hcz11_0, hcz11_1, hfz11_0, hfz11_1⟩ := blk2_ BK337) | ((with_reducible refine gate_callee (f := 82) rfl ?_); refine goesL_ (some 16) rfl rfl Try.func82 k_ rfl #[.int .i64 (wrap64 (a0_0 * a1_0)), .int .i64 (wrap64 (a0_1 * a1_1))] rfl (g2_) ?_; (with_reducible refine (impl_lowest.calls k (wrap64 (a0_0 * a1_0)) (wrap64 (a0_1 * a1_1)) t339 t340 t341 _ A3.out).mono ?_); rintro e w12 ⟨rfl, hb⟩; refine ⟨_, rfl, ?_⟩; replace BK336 := bb_ BK336 hb; replace BK337 := bb_ BK337 hb; replace BK338 := bb_ BK338 hb; replace HB := Aside0.mk (below_step (impl_times.calls_q0) hb); (try clear hb); (try clear hk hi); obtain ⟨hcz13_0, hcz13_1, hfz13_0, hfz13_1⟩ := blk2_ BK338))
 refine bodyPost_ret (results_ct rfl _ _ gb338 36 #[.int .i64 t339, .int .i64 t340] (0, 0) _ rfl (by (with_reducible repeat (first | refine blk_drewN ?_ _ | refine blk_drew ?_ | refine blk_alloc ?_ _)); refine blk_put (cs := #[.int .i64 t339, .int .i64 0]) ?_ 1 _ rfl; (with_reducible repeat (first | refine blk_drewN ?_ _ | refine blk_drew ?_ | refine blk_alloc ?_ _)); refine blk_put (cs := #[.int .i64 0, .int .i64 0]) ?_ 0 _ rfl; (with_reducible repeat (first | refine blk_drewN ?_ _ | refine blk_drew ?_ | refine blk_alloc ?_ _)); exact BK338.out) Try.underlying36 rfl (g0_)) rfl ?_
 exact ⟨g4_, impl_times.calls_q0⟩
mutual
def impl_gets.l0 : Nat → List (S36) → List Int → List (S36) → List Int → Int → Int → List Int → List (List Int) → Option ((List (S36)) × Bool)
 | 0, _, _, _, _, _, _, _, _ => none
 | k + 1, x1, x6, x7, x23, x24, x25, x343000, x343001 => if x25 < x24 then (if 0 ≤ x25 then (if x25 < (x23.length : Int) then ((impl_whole.f (rd x23 x25)).bind fun bt350 => (impl_gets.l1 k x1 x6 x7 x25 x23 x24 x25 x343001 (x343001.length : Int) 0 x343000 x343001 bt350.1 bt350.2)) else (none)) else (none)) else (some (x7, true))
def impl_gets.l1 : Nat → List (S36) → List Int → List (S36) → Int → List Int → Int → Int → List (List Int) → Int → Int → List Int → List (List Int) → Int → Int → Option ((List (S36)) × Bool)
 | 0, _, _, _, _, _, _, _, _, _, _, _, _, _, _ => none
 | k + 1, x1, x6, x7, x8, x23, x24, x25, x33, x34, x35, x343000, x343001, x353000, x353001 => if x35 < x34 then (if 0 ≤ x35 then (if x35 < (x33.length : Int) then (if x35 = x8 then (impl_gets.j2 k x1 x6 x7 x8 x35 (rd_L1 x33 x35) x23 x24 x25 x33 x34 x35 true x343000 x343001 x353000 x353001) else (if x35 < (x6.length : Int) then (impl_gets.j2 k x1 x6 x7 x8 x35 (rd_L1 x33 x35) x23 x24 x25 x33 x34 x35 ((rd x6 x35) == 0) x343000 x343001 x353000 x353001) else (none))) else (none)) else (none)) else (if x7.length < 8796093022208 then (impl_gets.l0 k x1 x6 (x7 ++ [(⟨x353000, x353001⟩ : S36)]) x23 x24 (wrap64 (x25 + 1)) x343000 x343001) else (none))
def impl_gets.j2 : Nat → List (S36) → List Int → List (S36) → Int → Int → List Int → List Int → Int → Int → List (List Int) → Int → Int → Bool → List Int → List (List Int) → Int → Int → Option ((List (S36)) × Bool)
 | 0, _, _, _, _, _, _, _, _, _, _, _, _, _, _, _, _, _ => none
 | k + 1, x1, x6, x7, x8, x11, x12, x23, x24, x25, x33, x34, x35, x49, x343000, x343001, x353000, x353001 => if x49 = true then (impl_gets.l1 k x1 x6 x7 x8 x23 x24 x25 x33 x34 (wrap64 (x35 + 1)) x343000 x343001 x353000 x353001) else (if 0 ≤ x8 then (if x8 < (x12.length : Int) then (if 0 ≤ x11 then (if x11 < (x6.length : Int) then ((impl_lowest.f k (rd x12 x8) (rd x6 x11)).bind fun bt360 => (if x11 < (x1.length : Int) then ((impl_times.f k ((rd_T36 x1 x11).f0) ((rd_T36 x1 x11).f1) bt360.1 bt360.2.1).bind fun bt365 => ((impl_plus.f k x353000 x353001 bt365.1 bt365.2.1).bind fun bt369 => (if bt365.2.2 = true then (if bt369.2.2 = true then (impl_gets.l1 k x1 x6 x7 x8 x23 x24 x25 x33 x34 (wrap64 (x35 + 1)) x343000 x343001 bt369.1 bt369.2.1) else (some (([] : List (S36)), false))) else (some (([] : List (S36)), false))))) else (none))) else (none)) else (none)) else (none)) else (none))
end
def impl_gets.f (k : Nat) (l0_0 : List Int) (l0_1 : List (List Int)) (l1 : List (S36)) : Option ((List (S36)) × Bool) := (impl_owes.f k l0_0 l0_1).bind fun t343 => (impl_gets.l0 k l1 t343 (([] : List (S36))) l0_0 (l0_0.length : Int) 0 l0_0 l0_1)
theorem impl_gets.mq {p : Prop} (h : p := by
 repeat' first
 | (with_reducible exact ih0 _ _ _ _ _ _ _ _)
 | (with_reducible exact ih1 _ _ _ _ _ _ _ _ _ _ _ _ _ _)
 | (with_reducible exact ih2 _ _ _ _ _ _ _ _ _ _ _ _ _ _ _ _ _)
 | (with_reducible exact impl_lowest.mono _ _ _)
 | (with_reducible exact impl_owes.mono _ _ _)
 | (with_reducible exact impl_plus.mono _ _ _ _ _)
 | (with_reducible exact impl_times.mono _ _ _ _ _)
 | (with_reducible exact LeO.refl _)
 | (with_reducible exact LeO.none _)
 | (with_reducible refine LeO.ite ?_ ?_)
 | (with_reducible refine LeO.bind ?_ (fun _ => ?_))
 | exact ih0 _ _ _ _ _ _ _ _
 | exact ih1 _ _ _ _ _ _ _ _ _ _ _ _ _ _
 | exact ih2 _ _ _ _ _ _ _ _ _ _ _ _ _ _ _ _ _
 | exact impl_lowest.mono _ _ _
 | exact impl_owes.mono _ _ _
 | exact impl_plus.mono _ _ _ _ _
 | exact impl_times.mono _ _ _ _ _
 | exact LeO.none _
 | refine LeO.ite ?_ ?_
 | refine LeO.bind ?_ (fun _ => ?_)) : p := h
theorem impl_gets.mono_l : ∀ k, (∀ y0 y1 y2 y3 y4 y5 y6 y7, LeO (impl_gets.l0 k y0 y1 y2 y3 y4 y5 y6 y7) (impl_gets.l0 (k + 1) y0 y1 y2 y3 y4 y5 y6 y7)) ∧ (∀ y0 y1 y2 y3 y4 y5 y6 y7 y8 y9 y10 y11 y12 y13, LeO (impl_gets.l1 k y0 y1 y2 y3 y4 y5 y6 y7 y8 y9 y10 y11 y12 y13) (impl_gets.l1 (k + 1) y0 y1 y2 y3 y4 y5 y6 y7 y8 y9 y10 y11 y12 y13)) ∧ (∀ y0 y1 y2 y3 y4 y5 y6 y7 y8 y9 y10 y11 y12 y13 y14 y15 y16, LeO (impl_gets.j2 k y0 y1 y2 y3 y4 y5 y6 y7 y8 y9 y10 y11 y12 y13 y14 y15 y16) (impl_gets.j2 (k + 1) y0 y1 y2 y3 y4 y5 y6 y7 y8 y9 y10 y11 y12 y13 y14 y15 y16))
 | 0 => ⟨fun _ _ _ _ _ _ _ _ r h => by simp [impl_gets.l0] at h, fun _ _ _ _ _ _ _ _ _ _ _ _ _ _ r h => by simp [impl_gets.l1] at h, fun _ _ _ _ _ _ _ _ _ _ _ _ _ _ _ _ _ r h => by simp [impl_gets.j2] at h⟩
 | k + 1 => by
  obtain ⟨ih0, ih1, ih2⟩ := impl_gets.mono_l k
  refine ⟨?_, ?_, ?_⟩
  ·intro y0 y1 y2 y3 y4 y5 y6 y7
   unfold impl_gets.l0
   exact impl_gets.mq
  ·intro y0 y1 y2 y3 y4 y5 y6 y7 y8 y9 y10 y11 y12 y13
   unfold impl_gets.l1
   exact impl_gets.mq
  ·intro y0 y1 y2 y3 y4 y5 y6 y7 y8 y9 y10 y11 y12 y13 y14 y15 y16
   unfold impl_gets.j2
   exact impl_gets.mq
theorem impl_gets.mono : ∀ a0 a1 a2 k, LeO (impl_gets.f k a0 a1 a2) (impl_gets.f (k + 1) a0 a1 a2) := by
 intro a0 a1 a2 k
 obtain ⟨ih0, ih1, ih2⟩ := impl_gets.mono_l k
 unfold impl_gets.f
 exact impl_gets.mq
def impl_gets.T11 : Bool × List (List Nat × List Nat) := (true, [([], []), ([], []), ([0, 1], [0, 1]), ([2], [2]), ([], []), ([], []), ([4, 5], [4, 5]), ([6], [6]), ([3, 7], [3, 7]), ([8], [8]), ([9], [9]), ([9], [9]), ([], []), ([12, 10, 8, 0, 1, 2, 3, 4, 5, 6, 7, 8, 9, 10, 12], [10, 12]), ([11, 13, 0, 1, 2, 3, 4, 5, 6, 7, 8, 9, 10, 11, 12, 13], [11])])
def impl_gets.B11 : List Nat := [0, 0, 3, 7, 0, 0, 48, 112, 255, 511, 1023, 1023, 0, 6143, 16383]
theorem impl_gets.tab11 : rtab .any (opsOf Try.f52 11) = impl_gets.T11 := by kernel_rfl
theorem impl_gets.bits11 : waitsOk impl_gets.T11.2 impl_gets.B11 = true := by kernel_rfl
def impl_gets.T12 : Bool × List (List Nat × List Nat) := (true, [([], []), ([], []), ([0, 1], [0, 1]), ([2], [2]), ([], []), ([3, 4], [3, 4]), ([5], [5]), ([6], [6]), ([6], [6]), ([], []), ([9, 7, 5, 0, 1, 2, 3, 4, 5, 6, 7, 9], [7, 9]), ([8, 10, 0, 1, 2, 3, 4, 5, 6, 7, 8, 9, 10], [8])])
def impl_gets.B12 : List Nat := [0, 0, 3, 7, 0, 31, 63, 127, 127, 0, 767, 2047]
theorem impl_gets.tab12 : rtab .any (opsOf Try.f52 12) = impl_gets.T12 := by kernel_rfl
theorem impl_gets.bits12 : waitsOk impl_gets.T12.2 impl_gets.B12 = true := by kernel_rfl
theorem impl_gets.calls_q0 {p : Prop} (h : p := by repeat (first | (with_reducible first | exact HB.out | apply below_alloc | apply pw_below_drewN | apply below_drew1 | refine below_set ?_ GE342.out | refine below_set ?_ GE352.out | refine below_set ?_ GE363.out | refine below_set ?_ GE368.out | refine below_set ?_ GE372.out) | exact HB.out)) : p := h
set_option maxHeartbeats 8000000 in
set_option maxRecDepth 100000 in
theorem impl_gets.calls (k : Nat) (A0_0 : Option Addr) (c0_0 : Nat) (l0_0 : List Int) (A0_1 : Option Addr) (c0_1 : Nat) (l0_1 : List (List Int)) (A1 : Option Addr) (c1 : Nat) (l1 : List (S36)) (r1 : List (S36)) (r2 : Bool) (w : World) (hr0_0 : Kd.C (Kd.int .i64) w A0_0 l0_0.length l0_0) (hc0_0 : l0_0.length ≤ c0_0) (hr0_1 : Kd.C (Kd.slice 3 (Kd.int .i64)) w A0_1 l0_1.length l0_1) (hc0_1 : l0_1.length ≤ c0_1) (hr1 : Kd.C k36 w A1 l1.length l1) (hc1 : l1.length ≤ c1) (h : impl_gets.f k l0_0 l0_1 l1 = some (r1, r2)) :
  Calls Try.prog 52 #[.agg #[.slice A0_0 l0_0.length c0_0, .slice A0_1 l0_1.length c0_1], .slice A1 l1.length c1] w fun e w' => ∃ v0_ : Value, e = .returned (.tuple #[v0_, .bool r2]) ∧ Kd.R k36 36 w' w.heap.size (fun _ => True) v0_ r1 ∧ Below w.heap.size w w' := by
 have hu26 := Try.underlying26
 have hu36 := Try.underlying36
 have HR0_0 := Aside0.mk hr0_0
 have HC0_0 := Aside0.mk hc0_0
 clear hr0_0 hc0_0
 have HR0_1 := Aside0.mk hr0_1
 have HC0_1 := Aside0.mk hc0_1
 clear hr0_1 hc0_1
 have HR1 := Aside0.mk hr1
 have HC1 := Aside0.mk hc1
 clear hr1 hc1
 have HB := Aside0.mk (Below.refl w.heap.size w)
 have H : ((impl_owes.f k l0_0 l0_1).bind fun t343 => (impl_gets.l0 k l1 t343 (([] : List (S36))) l0_0 (l0_0.length : Int) 0 l0_0 l0_1)) = some (r1, r2) := h
 clear h
 obtain ⟨t343, A3, H⟩ := bind_ H
 obtain ⟨y346, hy346⟩ : ∃ y_ : List (S36), y_ = (([] : List (S36))) := ⟨_, rfl⟩
 replace H : (impl_gets.l0 k l1 t343 y346 l0_0 (l0_0.length : Int) 0 l0_0 l0_1) = some (r1, r2) := by first | (rw [hy346]; with_reducible exact H) | (have H2_ := (Option.bind_some _ _).symm.trans H; rw [hy346]; with_reducible exact H2_) | (have H2_ := (Option.bind_some _ _).symm.trans H; with_reducible exact H2_) | with_reducible exact H | (rw [hy346]; exact H) | exact H
 have Ny346 := Aside0.mk hy346
 clear hy346
 have H' := Aside0.mk H
 clear H
 go_enter Try.func52, Try.ntmps52
 go_wp2_with (first | ((with_reducible refine gate_dst (N := 2) rfl ?_); refine bx_ (N := 2) #[.slice A0_0 l0_0.length c0_0, .slice A0_1 l0_1.length c0_1] 26 ?_; intro gb342 hg w4 hbox hb; have BK342 := Aside0.mk (hbox); have GW342 := Aside0.mk ((g8_ : w.heap.size ≤ gb342)); have GE342 := Aside0.mk ((g8_ : w.heap.size ≤ gb342)); replace HB := Aside0.mk (below_step (impl_gets.calls_q0) hb); clear hb hbox hg; obtain ⟨hcz5_0, hcz5_1, hfz5_0, hfz5_1⟩ := blk2_ BK342) | ((with_reducible refine gate_callee (f := 72) rfl ?_); refine goesL_ (some 20) rfl rfl Try.func72 k_ rfl #[.agg #[.slice A0_0 l0_0.length c0_0, .slice A0_1 l0_1.length c0_1]] rfl (g2_) ?_; (with_reducible refine (impl_owes.calls k _ _ l0_0 _ _ l0_1 t343 _ ?side1 ?side2 ?side3 ?side4 A3.out).mono ?_); (case side1 => exact uf0_ HR0_0); (case side2 => exact HC0_0.out); (case side3 => exact uf0_ HR0_1); (case side4 => exact HC0_1.out); rintro e w6 ⟨v344, rfl, ho0, hb⟩; refine ⟨_, rfl, ?_⟩; have HO345 := Aside0.mk (Kd.R_lower ho0 (below_size (impl_gets.calls_q0))); replace BK342 := bb_ BK342 hb; replace HB := Aside0.mk (below_step (impl_gets.calls_q0) hb); (try clear hb); (try clear hk hi); (try clear ho0)) | ((with_reducible refine gate_dst (N := 21) rfl ?_); refine Kd.R_lit k36 _ 36 ?hg (N := 21) ?hd (xs := ([] : List (S36))) (inner := []) (ok := fun _ => True) (okp := fun _ => True) ?hr ?hp (fun _ hk => hk) trivial (Below.refl _ _) (Nat.le_refl _) (by simp) ?_; (case hd => rfl); (case hg => rfl); (case hr => first | (go_simp; done) | (go_simp; rfl)); (case hp => exact (Reps.none _ _)); intro v347 w7 ho8 hb hg_ hnew_; clear hg_ hnew_; (first | rw [← Ny346.out] at ho8 | (simp only [Int.reduceToNat] at ho8; rw [← Ny346.out] at ho8)); replace HO345 := Aside0.mk (Kd.R_below (uf1_ HO345) hb); have HO348 := Aside0.mk (Kd.R_lower ho8 (below_size (impl_gets.calls_q0))); replace BK342 := bb_ BK342 hb; replace HB := Aside0.mk (below_step (impl_gets.calls_q0) hb); clear hb ho8; obtain ⟨hcz9_0, hcz9_1, hfz9_0, hfz9_1⟩ := blk2_ BK342))
 go_loopg [7, 25] k (fun kq v7 v25 w' => ∃ (x7_1 : List (S36)) (x25_1 : Int), v25 = .int .i64 x25_1 ∧ Aside0 (impl_gets.l0 kq l1 t343 x7_1 l0_0 (l0_0.length : Int) x25_1 l0_0 l0_1 = some (r1, r2)) ∧ Aside0 (kq ≤ k) ∧ Aside0 (Kd.R (Kd.int .i64) 3 w' w.heap.size (fun _ => True) v344 t343) ∧ Aside0 (Kd.R k36 36 w' w.heap.size (fun _ => True) v7 x7_1) ∧ Aside0 (w'.heap[gb342]? = some (.cells #[(.slice A0_0 l0_0.length c0_0), (.slice A0_1 l0_1.length c0_1)] 26 (0, 0))) ∧ Aside0 (Below w.heap.size w w'))
 case atStart => exact ⟨(y346), (0), (g3_), H', ⟨Nat.le_refl _⟩, ⟨uf1_ HO345⟩, ⟨uf1_ HO348⟩, ⟨uf3_ BK342⟩, ⟨impl_gets.calls_q0⟩⟩
 case round =>
  clear H'
  try clear c1
  try clear p2
  try clear c5
  try clear c7
  try clear hcz5_0
  try clear hcz5_1
  try clear hcz9_0
  try clear hcz9_1
  try clear hfz5_0
  try clear hfz5_1
  try clear hfz9_0
  try clear hfz9_1
  obtain ⟨x7_1, x25_1, rfl, HA, HK1, HO_6, HO_7, BK342, HB⟩ := hrel
  cases gk with
  | zero => exact absurd HA.out (by simp [impl_gets.l0])
  | succ k1 =>
   have H := HA.out
   clear HA
   simp only [impl_gets.l0] at H
   by_cases c10 : x25_1 < (l0_0.length : Int)
   ·rw [if_pos c10] at H
    have c10b0 := decide_eq_true c10
    clear c10
    obtain ⟨c11, H⟩ := pos_ H
    have c11b0 := decide_eq_true c11
    clear c11
    obtain ⟨c12, H⟩ := pos_ H
    have c12b0 := decide_eq_true c12
    clear c12
    replace H := Option.bind_eq_some_iff.mp H
    obtain ⟨⟨t350, t351⟩, A130, H⟩ := H
    replace H : (impl_gets.l1 k1 l1 t343 x7_1 x25_1 l0_0 (l0_0.length : Int) x25_1 l0_1 (l0_1.length : Int) 0 l0_0 l0_1 t350 t351) = some (r1, r2) := H
    have A13 := Aside0.mk A130
    clear A130
    have H' := Aside0.mk H
    clear H
    have p349 : 0 ≤ (x25_1 : Int) := of_decide_eq_true (g1_)
    have q349 : x25_1 < (l0_0.length : Int) := of_decide_eq_true (g1_)
    obtain ⟨ad349, e349, hx349_0⟩ := Kd.at_int HR0_0.out x25_1 p349 q349
    cases e349
    replace hx349_0 := cl_ HB hx349_0
    replace p349 := eq_true p349
    replace q349 := eq_true q349
    go_wp2_with (first | ((with_reducible refine gate_callee (f := 69) rfl ?_); refine goesL_ (some 31) rfl rfl Try.func69 k_ rfl #[.int .i64 (rd l0_0 x25_1)] rfl (g2_) ?_; (with_reducible refine (impl_whole.calls (rd l0_0 x25_1) t350 t351 _ A13.out).mono ?_); rintro e w14 ⟨rfl, hb⟩; refine ⟨_, rfl, ?_⟩; replace HO_6 := Aside0.mk (Kd.R_below (uf1_ HO_6) hb); replace HO_7 := Aside0.mk (Kd.R_below (uf1_ HO_7) hb); replace BK342 := bb_ BK342 hb; replace HB := Aside0.mk (below_step (impl_gets.calls_q0) hb); (try clear hb); (try clear hk hi)) | ((with_reducible refine gate_dst (N := 10) rfl ?_); refine bx_ (N := 10) #[.int .i64 0, .int .i64 0] 36 ?_; intro gb352 hg w15 hbox hb; replace HO_6 := Aside0.mk (Kd.R_below (uf1_ HO_6) hb); replace HO_7 := Aside0.mk (Kd.R_below (Kd.R_elderB (uf1_ HO_7) gb352 (Nat.le_of_eq hg.symm)) hb); have BK352 := Aside0.mk (hbox); have GW352 := Aside0.mk ((g8_ : w.heap.size ≤ gb352)); have GE352 := Aside0.mk ((g8_ : w.heap.size ≤ gb352)); replace HB := Aside0.mk (below_step (impl_gets.calls_q0) hb); have NB342_352 := Aside0.mk ((by rw [hg]; exact Nat.ne_of_lt (blk_lt (g := gb342) (o := .cells #[.slice (some ad349) l0_0.length c0_0, .slice A0_1 l0_1.length c0_1] 26 (0, 0)) (uf3_ BK342)) : gb342 ≠ gb352)); have NB352_342 := Aside0.mk ((by rw [hg]; exact Nat.ne_of_gt (blk_lt (g := gb342) (o := .cells #[.slice (some ad349) l0_0.length c0_0, .slice A0_1 l0_1.length c0_1] 26 (0, 0)) (uf3_ BK342)) : gb352 ≠ gb342)); replace BK342 := bb_ BK342 hb; clear hb hbox hg; have hnb16 := NB352_342.out; have hnc16 := NB342_352.out; obtain ⟨hcz17_0, hcz17_1, hfz17_0, hfz17_1⟩ := blk2_ BK352; obtain ⟨hcz18_0, hcz18_1, hfz18_0, hfz18_1⟩ := blk2_ BK342))
    go_loopg [35] k1 (fun kq v35 w' => ∃ (x35_2 : Int) (x353000_2 : Int) (x353001_2 : Int), v35 = .int .i64 x35_2 ∧ Aside0 (impl_gets.l1 kq l1 t343 x7_1 x25_1 l0_0 (l0_0.length : Int) x25_1 l0_1 (l0_1.length : Int) x35_2 l0_0 l0_1 x353000_2 x353001_2 = some (r1, r2)) ∧ Aside0 (kq ≤ k1) ∧ Aside0 (Kd.R (Kd.int .i64) 3 w' w.heap.size (fun _ => True) v344 t343) ∧ Aside0 (Kd.R k36 36 w' w.heap.size (fun k_ => k_ ≠ gb352) u7 x7_1) ∧ Aside0 (w'.heap[gb342]? = some (.cells #[(.slice (some ad349) l0_0.length c0_0), (.slice A0_1 l0_1.length c0_1)] 26 (0, 0))) ∧ Aside0 (w'.heap[gb352]? = some (.cells #[.int .i64 x353000_2, .int .i64 x353001_2] 36 (0, 0))) ∧ Aside0 (Below w.heap.size w w'))
    case atStart => exact ⟨(0), (t350), (t351), (g3_), H', ⟨Nat.le_refl _⟩, ⟨by (with_reducible repeat (first | apply Kd.R_alloc | apply Kd.R_drewN | apply Kd.R_drew)); exact Kd.R_mono (Kd.R_far (p := ⟨gb352, 1, none⟩) (Kd.R_far (p := ⟨gb352, 0, none⟩) (Kd.R_types HO_6.out BK352.out (by decide)) (fun _ hk => hk.2) (.int .i64 t350)) (fun _ hk => hk.2) (.int .i64 t351)) (fun _ hk => trivial)⟩, ⟨by (with_reducible repeat (first | apply Kd.R_alloc | apply Kd.R_drewN | apply Kd.R_drew)); exact Kd.R_mono (Kd.R_far (p := ⟨gb352, 1, none⟩) (Kd.R_far (p := ⟨gb352, 0, none⟩) (Kd.R_mono HO_7.out (fun k_ hk => (⟨hk, hk.2⟩ : _ ∧ k_ ≠ gb352))) (fun _ hk => hk.2) (.int .i64 t350)) (fun _ hk => hk.2) (.int .i64 t351)) (fun _ hk => hk.1.2)⟩, ⟨by (with_reducible repeat (first | refine blk_drewN ?_ _ | refine blk_drew ?_ | refine blk_alloc ?_ _)); refine blk_far ?_ NB342_352.out _; (with_reducible repeat (first | refine blk_drewN ?_ _ | refine blk_drew ?_ | refine blk_alloc ?_ _)); refine blk_far ?_ NB342_352.out _; (with_reducible repeat (first | refine blk_drewN ?_ _ | refine blk_drew ?_ | refine blk_alloc ?_ _)); exact BK342.out⟩, ⟨by (with_reducible repeat (first | refine blk_drewN ?_ _ | refine blk_drew ?_ | refine blk_alloc ?_ _)); refine blk_put (cs := #[.int .i64 t350, .int .i64 0]) ?_ 1 _ rfl; (with_reducible repeat (first | refine blk_drewN ?_ _ | refine blk_drew ?_ | refine blk_alloc ?_ _)); refine blk_put (cs := #[.int .i64 0, .int .i64 0]) ?_ 0 _ rfl; (with_reducible repeat (first | refine blk_drewN ?_ _ | refine blk_drew ?_ | refine blk_alloc ?_ _)); exact BK352.out⟩, ⟨impl_gets.calls_q0⟩⟩
    case round =>
     clear H'
     try clear c1
     try clear p2
     try clear p3
     try clear q3
     try clear hx3
     try clear c5
     try clear c6
     try clear c7
     try clear c10
     try clear c10b0
     try clear c11
     try clear c11b0
     try clear c12
     try clear c12b0
     try clear c16
     try clear hcz17_0
     try clear hcz17_1
     try clear hcz18_0
     try clear hcz18_1
     try clear hcz5_0
     try clear hcz5_1
     try clear hcz9_0
     try clear hcz9_1
     try clear hfz17_0
     try clear hfz17_1
     try clear hfz18_0
     try clear hfz18_1
     try clear hfz5_0
     try clear hfz5_1
     try clear hfz9_0
     try clear hfz9_1
     try clear hx349_0
     try clear p2
     try clear p349
     try clear q349
     obtain ⟨x35_2, x353000_2, x353001_2, rfl, HA, HK2, HO_6, HO_7, BK342, BK352, HB⟩ := hrel
     cases gk with
     | zero => exact absurd HA.out (by simp [impl_gets.l1])
     | succ k2 =>
      have H := HA.out
      clear HA
      simp only [impl_gets.l1] at H
      by_cases c19 : x35_2 < (l0_1.length : Int)
      ·rw [if_pos c19] at H
       have c19b0 := decide_eq_true c19
       clear c19
       obtain ⟨c20, H⟩ := pos_ H
       have c20b0 := decide_eq_true c20
       clear c20
       obtain ⟨c21, H⟩ := pos_ H
       have c21b0 := decide_eq_true c21
       clear c21
       have HC22 := Aside0.mk H
       clear H
       have p356 : 0 ≤ (x35_2 : Int) := of_decide_eq_true (g1_)
       have q356 : x35_2 < (l0_1.length : Int) := of_decide_eq_true (g1_)
       obtain ⟨ad356, A356_0, c356_0, e356, hx356_0, hl356_0, hi356_0⟩ := at_L1 HR0_1.out x35_2 p356 q356
       cases e356
       replace hx356_0 := cl_ HB hx356_0
       have HR356_0 := Aside0.mk hi356_0
       have HC356_0 := Aside0.mk hl356_0
       clear hi356_0 hl356_0
       replace p356 := eq_true p356
       replace q356 := eq_true q356
       go_upto_region 10 with (fail)
       go_cut [49] (fun v49 wc => ∃ (kq : Nat) (x49_21 : Bool), v49 = .bool x49_21 ∧ Aside0 (impl_gets.j2 kq l1 t343 x7_1 x25_1 x35_2 (rd_L1 l0_1 x35_2) l0_0 (l0_0.length : Int) x25_1 l0_1 (l0_1.length : Int) x35_2 x49_21 l0_0 l0_1 x353000_2 x353001_2 = some (r1, r2)) ∧ Aside0 (kq ≤ k2) ∧ Aside0 (Kd.R (Kd.int .i64) 3 wc w.heap.size (fun _ => True) v344 t343) ∧ Aside0 (Kd.R k36 36 wc w.heap.size (fun k_ => k_ ≠ gb352) u7 x7_1) ∧ Aside0 (wc.heap[gb342]? = some (.cells #[(.slice (some ad349) l0_0.length c0_0), (.slice (some ad356) l0_1.length c0_1)] 26 (0, 0))) ∧ Aside0 (wc.heap[gb352]? = some (.cells #[.int .i64 x353000_2, .int .i64 x353001_2] 36 (0, 0))) ∧ Aside0 (Below w.heap.size w wc))
       case first =>
        have H := HC22.out
        clear HC22
        by_cases c23 : x35_2 = x25_1
        ·rw [if_pos c23] at H
         have c23b0 : (x35_2 == x25_1) = true := beq_iff_eq.mpr c23
         have c23b1 : (x35_2 != x25_1) = false := bne_eq_false_iff_eq.mpr c23
         clear c23
         (first | rw [c23b0] | (simp only [i64_w, i32_w]; rw [c23b0]) | skip)
         have H' := Aside0.mk H
         clear H
         go_wp2
         go_meet
         case rel => exact ⟨_, (true), (g3_), H', ⟨by have := HK1.out; have := HK2.out; first | omega | exact Nat.le_refl _⟩, ⟨uf1_ HO_6⟩, ⟨uf1_ HO_7⟩, ⟨uf3_ BK342⟩, ⟨uf3_ BK352⟩, ⟨impl_gets.calls_q0⟩⟩
        ·rw [if_neg c23] at H
         have c23b0 : (x35_2 == x25_1) = false := beq_eq_false_iff_ne.mpr c23
         have c23b1 : (x35_2 != x25_1) = true := bne_iff_ne.mpr c23
         (first | rw [c23b0] | (simp only [i64_w, i32_w]; rw [c23b0]) | skip)
         obtain ⟨c24, H⟩ := pos_ H
         have c24b0 := decide_eq_true c24
         clear c24
         have H' := Aside0.mk H
         clear H
         obtain ⟨Ao25, co25, eo25⟩ := Kd.R_slice HO_6.out
         subst eo25
         have p357 : 0 ≤ (x35_2 : Int) := of_decide_eq_true (g1_)
         have q357 : x35_2 < (t343.length : Int) := of_decide_eq_true (g1_)
         obtain ⟨ad357, e357, hx357_0⟩ := Kd.at_int (Kd.R_reads' HO_6.out).2.2 x35_2 p357 q357
         cases e357
         replace p357 := eq_true p357
         replace q357 := eq_true q357
         go_wp2
         go_meet
         case rel => exact ⟨_, (((rd t343 x35_2) == 0)), (g3_), H', ⟨by have := HK1.out; have := HK2.out; first | omega | exact Nat.le_refl _⟩, ⟨uf1_ HO_6⟩, ⟨uf1_ HO_7⟩, ⟨uf3_ BK342⟩, ⟨uf3_ BK352⟩, ⟨impl_gets.calls_q0⟩⟩
       case rest =>
        clear HC22
        try clear c1
        try clear c2
        try clear p2
        try clear c3
        try clear p3
        try clear q3
        try clear hx3
        try clear c5
        try clear c6
        try clear c7
        try clear c10
        try clear c10b0
        try clear c11
        try clear c11b0
        try clear c12
        try clear c12b0
        try clear c16
        try clear c19
        try clear c19b0
        try clear c20
        try clear c20b0
        try clear c21
        try clear c21b0
        try clear c23
        try clear c23b0
        try clear c23b1
        try clear c24
        try clear c24b0
        try clear hcz17_0
        try clear hcz17_1
        try clear hcz18_0
        try clear hcz18_1
        try clear hcz5_0
        try clear hcz5_1
        try clear hcz9_0
        try clear hcz9_1
        try clear hfz17_0
        try clear hfz17_1
        try clear hfz18_0
        try clear hfz18_1
        try clear hfz5_0
        try clear hfz5_1
        try clear hfz9_0
        try clear hfz9_1
        try clear hx349_0
        try clear hx356_0
        try clear hx357_0
        try clear p2
        try clear p3
        try clear p349
        try clear p356
        try clear p357
        try clear q3
        try clear q349
        try clear q356
        try clear q357
        obtain ⟨kq, x49_21, rfl, HA, HJ21, HO_6, HO_7, BK342, BK352, HB⟩ := hcut
        cases kq with
        | zero => exact absurd HA.out (by simp [impl_gets.j2])
        | succ kj21 =>
         have H := HA.out
         clear HA
         simp only [impl_gets.j2] at H
         by_cases c26 : x49_21 = true
         ·subst c26
          replace H := ifp_ H
          have H' := Aside0.mk H
          clear H
          go_wp2
          go_roundg kj21
          case measure => have := HK1.out; have := HK2.out; have := HJ21.out; omega
          case rel => exact ⟨(wrap64 (x35_2 + 1)), (x353000_2), (x353001_2), (g3_), H', ⟨by have := HK1.out; have := HK2.out; have := HJ21.out; omega⟩, ⟨uf1_ HO_6⟩, ⟨uf1_ HO_7⟩, ⟨uf3_ BK342⟩, ⟨uf3_ BK352⟩, ⟨impl_gets.calls_q0⟩⟩
         ·replace c26 := Bool.eq_false_iff.mpr c26
          subst c26
          replace H := ifn_ H
          obtain ⟨c27, H⟩ := pos_ H
          have c27b0 := decide_eq_true c27
          clear c27
          obtain ⟨c28, H⟩ := pos_ H
          have c28b0 := decide_eq_true c28
          clear c28
          obtain ⟨c29, H⟩ := pos_ H
          have c29b0 := decide_eq_true c29
          clear c29
          obtain ⟨c30, H⟩ := pos_ H
          have c30b0 := decide_eq_true c30
          clear c30
          replace H := Option.bind_eq_some_iff.mp H
          obtain ⟨⟨t360, t361, t362⟩, A310, H⟩ := H
          replace H : (if x35_2 < (l1.length : Int) then ((impl_times.f kj21 ((rd_T36 l1 x35_2).f0) ((rd_T36 l1 x35_2).f1) t360 t361).bind fun bt365 => ((impl_plus.f kj21 x353000_2 x353001_2 bt365.1 bt365.2.1).bind fun bt369 => (if bt365.2.2 = true then (if bt369.2.2 = true then (impl_gets.l1 kj21 l1 t343 x7_1 x25_1 l0_0 (l0_0.length : Int) x25_1 l0_1 (l0_1.length : Int) (wrap64 (x35_2 + 1)) l0_0 l0_1 bt369.1 bt369.2.1) else (some (([] : List (S36)), false))) else (some (([] : List (S36)), false))))) else (none)) = some (r1, r2) := H
          have A31 := Aside0.mk A310
          clear A310
          obtain ⟨c32, H⟩ := pos_ H
          have c32b0 := decide_eq_true c32
          clear c32
          replace H := Option.bind_eq_some_iff.mp H
          obtain ⟨⟨t365, t366, t367⟩, A330, H⟩ := H
          replace H : ((impl_plus.f kj21 x353000_2 x353001_2 t365 t366).bind fun bt369 => (if t367 = true then (if bt369.2.2 = true then (impl_gets.l1 kj21 l1 t343 x7_1 x25_1 l0_0 (l0_0.length : Int) x25_1 l0_1 (l0_1.length : Int) (wrap64 (x35_2 + 1)) l0_0 l0_1 bt369.1 bt369.2.1) else (some (([] : List (S36)), false))) else (some (([] : List (S36)), false)))) = some (r1, r2) := H
          have A33 := Aside0.mk A330
          clear A330
          replace H := Option.bind_eq_some_iff.mp H
          obtain ⟨⟨t369, t370, t371⟩, A340, H⟩ := H
          replace H : (if t367 = true then (if t371 = true then (impl_gets.l1 kj21 l1 t343 x7_1 x25_1 l0_0 (l0_0.length : Int) x25_1 l0_1 (l0_1.length : Int) (wrap64 (x35_2 + 1)) l0_0 l0_1 t369 t370) else (some (([] : List (S36)), false))) else (some (([] : List (S36)), false))) = some (r1, r2) := H
          have A34 := Aside0.mk A340
          clear A340
          by_cases c35 : t367 = true
          ·subst c35
           replace H := ifp_ H
           by_cases c36 : t371 = true
           ·subst c36
            replace H := ifp_ H
            have H' := Aside0.mk H
            clear H
            try go_wp2
            replace HO_6 := Aside0.mk (Kd.R_drew HO_6.out)
            replace HO_7 := Aside0.mk (Kd.R_drew HO_7.out)
            replace BK342 := Aside0.mk (blk_drew BK342.out)
            replace BK352 := Aside0.mk (blk_drew BK352.out)
            replace HB := Aside0.mk (below_drew1 HB.out)
            have p358 : 0 ≤ (x25_1 : Int) := of_decide_eq_true (g1_)
            have q358 : x25_1 < ((rd_L1 l0_1 x35_2).length : Int) := of_decide_eq_true (g1_)
            obtain ⟨ad358, e358, hx358_0⟩ := Kd.at_int HR356_0.out x25_1 p358 q358
            have hw358_0 := hx358_0
            cases e358
            replace hx358_0 := cl_ HB hx358_0
            replace p358 := eq_true p358
            replace q358 := eq_true q358
            obtain ⟨Ao38, co38, eo38⟩ := Kd.R_slice HO_6.out
            (first | subst eo38 | (injection eo38 with f1_ f2_ f3_; have f4_ := f1_.symm; have f5_ := f3_.symm; clear f1_ f2_ f3_; subst f4_; subst f5_))
            have p359 : 0 ≤ (x35_2 : Int) := of_decide_eq_true (g1_)
            have q359 : x35_2 < (t343.length : Int) := of_decide_eq_true (g1_)
            obtain ⟨ad359, e359, hx359_0⟩ := Kd.at_int (Kd.R_reads' HO_6.out).2.2 x35_2 p359 q359
            cases e359
            replace p359 := eq_true p359
            replace q359 := eq_true q359
            refine start_ (n := 15) (S := fun w' => w'.cell? (ad358.add (x25_1).toNat) = some (.int .i64 (rd (rd_L1 l0_1 x35_2) x25_1)) ∧ w'.cell? (ad359.add (x35_2).toNat) = some (.int .i64 (rd t343 x35_2))) (ds := []) (tl_ 15 0) (g0_) rfl (g0_) ⟨((cl_ HB hw358_0).trans rfl), hx359_0⟩ (fun hHeld => ?_); refine with_tabW impl_gets.tab11 impl_gets.bits11 (fun HT_ HW_ => ?_)
            generalize wc.drew = w37 at HO_6 HO_7 BK342 BK352 HB hx358_0 hx359_0 hHeld ⊢
            refine pw_ 0 51 (tl_ 15 1) rfl rfl ?_
            refine pw_ 1 52 (tl_ 15 3) rfl rfl ?_
            refine pw_ 2 53 (tl_ 15 7) rfl rfl ?_
            refine pw_ 4 55 (tl_ 15 23) rfl rfl ?_
            refine pw_ 5 56 (tl_ 15 55) rfl rfl ?_
            refine pw_ 6 57 (tl_ 15 119) rfl rfl ?_
            refine tk4_ 3 54 (tl_ 15 127) rfl rfl hHeld ?_
            refine tk4_ 7 58 (tl_ 15 255) rfl rfl hHeld ?_
            refine join_ (σ := Nat) 2 (tl_ 15 8191) (fun s_ => [(59, .tuple #[.agg #[.int .i64 t360, .int .i64 t361], .bool t362]), (13, .pointer (some ⟨s_, 0, none⟩)), (50, .tuple #[.agg #[.int .i64 t360, .int .i64 t361], .bool t362]), (60, .agg #[.int .i64 t360, .int .i64 t361]), (61, .bool t362)]) (fun s_ w' => (w'.cell? (ad358.add (x25_1).toNat) = some (.int .i64 (rd (rd_L1 l0_1 x35_2) x25_1)) ∧ w'.cell? (ad359.add (x35_2).toNat) = some (.int .i64 (rd t343 x35_2))) ∧ (Kd.R (Kd.int .i64) 3 w' w.heap.size (fun _ => True) (.slice (some ad359) t343.length co38) t343) ∧ (Kd.R k36 36 w' w.heap.size (fun k_ => k_ ≠ gb352 ∧ k_ ≠ s_) u7 x7_1) ∧ (w'.heap[gb342]? = some (.cells #[.slice (some ad349) l0_0.length c0_0, .slice (some ad356) l0_1.length c0_1] 26 (0, 0))) ∧ (w'.heap[gb352]? = some (.cells #[.int .i64 x353000_2, .int .i64 x353001_2] 36 (0, 0))) ∧ (w'.heap[s_]? = some (.cells #[.int .i64 0, .int .i64 0] 36 (0, 0))) ∧ (w.heap.size ≤ s_) ∧ (w.heap.size ≤ s_) ∧ (gb342 ≠ s_) ∧ (s_ ≠ gb342) ∧ (gb352 ≠ s_) ∧ (s_ ≠ gb352) ∧ (Below w.heap.size w w')) ?_ ?_
            rotate_left
            ·intro hCont
             refine two_ (i := 8) (j := 12) (Ni := some 59) (Nj := some 13) (tl_ 15 511) (tl_ 15 4351) rfl rfl rfl rfl (two_of HT_.out (g0_)) (by decide) (by decide) (fun K hK => ?_) (fun K hK => ?_)
             ·skip
              refine goes_ Try.func82 (g0_) rfl #[.int .i64 (rd (rd_L1 l0_1 x35_2) x25_1), .int .i64 (rd t343 x35_2)] (by rfl) rfl rfl (g2_) ?_
              with_reducible refine (impl_lowest.calls kj21 (rd (rd_L1 l0_1 x35_2) x25_1) (rd t343 x35_2) t360 t361 t362 _ A31.out).mono ?_
              rintro e w39 ⟨rfl, hb⟩
              have HS1_ := (hb.cell (World.block_lt_of_cell? _ _ (hHeld.2))).trans (hHeld.2)
              refine ⟨_, rfl, ?_⟩
              replace HO_6 := Aside0.mk (Kd.R_below (uf1_ HO_6) hb)
              replace HO_7 := Aside0.mk (Kd.R_below (uf1_ HO_7) hb)
              replace BK342 := bb_ BK342 hb
              replace BK352 := bb_ BK352 hb
              replace HB := Aside0.mk (below_step (impl_gets.calls_q0) hb)
              (try clear hb)
              (try clear hk hi)
              refine hK.out _ _ ⟨((cl_ HB hw358_0).trans rfl), HS1_⟩ (fun hHeld => ?_)
              clear hK K
              refine nm_ ?_
              refine pw_ 9 50 (tl_ 15 1023) rfl rfl ?_
              refine pw_ 10 60 (tl_ 15 2047) rfl rfl ?_
              refine pw_ 11 61 (tl_ 15 4095) rfl rfl ?_
              refine one_ (i := 12) (N := some 13) (tl_ 15 8191) rfl rfl (one_of HT_.out (g0_)) (by decide) (fun K hK => ?_)
              refine bs_ (N := 13) #[.int .i64 0, .int .i64 0] 36 ?_
              intro gb363 hg w40 hbox hb
              have HS1_ := (hb.cell (World.block_lt_of_cell? _ _ (hHeld.2))).trans (hHeld.2)
              replace HO_6 := Aside0.mk (Kd.R_below (uf1_ HO_6) hb)
              replace HO_7 := Aside0.mk (Kd.R_below (Kd.R_elderB (uf1_ HO_7) gb363 (Nat.le_of_eq hg.symm)) hb)
              have BK363 := Aside0.mk (hbox)
              have GW363 := Aside0.mk ((g8_ : w.heap.size ≤ gb363))
              have GE363 := Aside0.mk ((g8_ : w.heap.size ≤ gb363))
              replace HB := Aside0.mk (below_step (impl_gets.calls_q0) hb)
              have NB342_363 := Aside0.mk ((g21_ : gb342 ≠ gb363))
              have NB363_342 := Aside0.mk ((g22_ : gb363 ≠ gb342))
              replace BK342 := bb_ BK342 hb
              have NB352_363 := Aside0.mk ((g23_ : gb352 ≠ gb363))
              have NB363_352 := Aside0.mk ((g24_ : gb363 ≠ gb352))
              replace BK352 := bb_ BK352 hb
              clear hb hbox hg
              refine hK.out _ _ ⟨((cl_ HB hw358_0).trans rfl), HS1_⟩ (fun hHeld => ?_)
              clear hK K
              refine nm_ ?_
              exact norm_ (g9_) (hCont (gb363) _ ⟨hHeld, (uf1_ HO_6), (uf1_ HO_7), (uf3_ BK342), (uf3_ BK352), (uf3_ BK363), GW363.out, GE363.out, NB342_363.out, NB363_342.out, NB352_363.out, NB363_352.out, (impl_gets.calls_q0)⟩)
             ·skip
              refine bs_ (N := 13) #[.int .i64 0, .int .i64 0] 36 ?_
              intro gb363 hg w39 hbox hb
              have HS1_ := (hb.cell (World.block_lt_of_cell? _ _ (hHeld.2))).trans (hHeld.2)
              replace HO_6 := Aside0.mk (Kd.R_below (uf1_ HO_6) hb)
              replace HO_7 := Aside0.mk (Kd.R_below (Kd.R_elderB (uf1_ HO_7) gb363 (Nat.le_of_eq hg.symm)) hb)
              have BK363 := Aside0.mk (hbox)
              have GW363 := Aside0.mk ((g8_ : w.heap.size ≤ gb363))
              have GE363 := Aside0.mk ((g8_ : w.heap.size ≤ gb363))
              replace HB := Aside0.mk (below_step (impl_gets.calls_q0) hb)
              have NB342_363 := Aside0.mk ((g21_ : gb342 ≠ gb363))
              have NB363_342 := Aside0.mk ((g22_ : gb363 ≠ gb342))
              replace BK342 := bb_ BK342 hb
              have NB352_363 := Aside0.mk ((g23_ : gb352 ≠ gb363))
              have NB363_352 := Aside0.mk ((g24_ : gb363 ≠ gb352))
              replace BK352 := bb_ BK352 hb
              clear hb hbox hg
              refine hK.out _ _ ⟨((cl_ HB hw358_0).trans rfl), HS1_⟩ (fun hHeld => ?_)
              clear hK K
              refine nm_ ?_
              refine one_ (i := 8) (N := some 59) (tl_ 15 4607) rfl rfl (one_of HT_.out (g0_)) (by decide) (fun K hK => ?_)
              refine goes_ Try.func82 (g0_) rfl #[.int .i64 (rd (rd_L1 l0_1 x35_2) x25_1), .int .i64 (rd t343 x35_2)] (by rfl) rfl rfl (g2_) ?_
              with_reducible refine (impl_lowest.calls kj21 (rd (rd_L1 l0_1 x35_2) x25_1) (rd t343 x35_2) t360 t361 t362 _ A31.out).mono ?_
              rintro e w40 ⟨rfl, hb⟩
              have HS1_ := (hb.cell (World.block_lt_of_cell? _ _ (hHeld.2))).trans (hHeld.2)
              refine ⟨_, rfl, ?_⟩
              replace HO_6 := Aside0.mk (Kd.R_below (uf1_ HO_6) hb)
              replace HO_7 := Aside0.mk (Kd.R_below (uf1_ HO_7) hb)
              replace BK342 := bb_ BK342 hb
              replace BK352 := bb_ BK352 hb
              replace BK363 := bb_ BK363 hb
              replace HB := Aside0.mk (below_step (impl_gets.calls_q0) hb)
              (try clear hb)
              (try clear hk hi)
              refine hK.out _ _ ⟨((cl_ HB hw358_0).trans rfl), HS1_⟩ (fun hHeld => ?_)
              clear hK K
              refine nm_ ?_
              refine pw_ 9 50 (tl_ 15 5119) rfl rfl ?_
              refine pw_ 10 60 (tl_ 15 6143) rfl rfl ?_
              refine pw_ 11 61 (tl_ 15 8191) rfl rfl ?_
              exact norm_ (g9_) (hCont (gb363) _ ⟨hHeld, (uf1_ HO_6), (uf1_ HO_7), (uf3_ BK342), (uf3_ BK352), (uf3_ BK363), GW363.out, GE363.out, NB342_363.out, NB363_342.out, NB352_363.out, NB363_352.out, (impl_gets.calls_q0)⟩)
            rintro gb363 w41 ⟨hS_, h0_, h1_, h2_, h3_, h4_, h5_, h6_, h7_, h8_, h9_, h10_, h11_⟩
            replace HO_6 : Aside0 (Kd.R (Kd.int .i64) 3 w41 w.heap.size (fun _ => True) (.slice (some ad359) t343.length co38) t343) := ⟨h0_⟩
            replace HO_7 : Aside0 (Kd.R k36 36 w41 w.heap.size (fun k_ => k_ ≠ gb352 ∧ k_ ≠ gb363) u7 x7_1) := ⟨h1_⟩
            replace BK342 : Aside0 (w41.heap[gb342]? = some (.cells #[.slice (some ad349) l0_0.length c0_0, .slice (some ad356) l0_1.length c0_1] 26 (0, 0))) := ⟨h2_⟩
            replace BK352 : Aside0 (w41.heap[gb352]? = some (.cells #[.int .i64 x353000_2, .int .i64 x353001_2] 36 (0, 0))) := ⟨h3_⟩
            have BK363 : Aside0 (w41.heap[gb363]? = some (.cells #[.int .i64 0, .int .i64 0] 36 (0, 0))) := ⟨h4_⟩
            have GW363 : Aside0 (w.heap.size ≤ gb363) := ⟨h5_⟩
            have GE363 : Aside0 (w.heap.size ≤ gb363) := ⟨h6_⟩
            have NB342_363 : Aside0 (gb342 ≠ gb363) := ⟨h7_⟩
            have NB363_342 : Aside0 (gb363 ≠ gb342) := ⟨h8_⟩
            have NB352_363 : Aside0 (gb352 ≠ gb363) := ⟨h9_⟩
            have NB363_352 : Aside0 (gb363 ≠ gb352) := ⟨h10_⟩
            replace HB : Aside0 (Below w.heap.size w w41) := ⟨h11_⟩
            clear h0_ h1_ h2_ h3_ h4_ h5_ h6_ h7_ h8_ h9_ h10_ h11_
            have hHeld : w41.cell? (ad358.add (x25_1).toNat) = some (.int .i64 (rd (rd_L1 l0_1 x35_2) x25_1)) ∧ w41.cell? (ad359.add (x35_2).toNat) = some (.int .i64 (rd t343 x35_2)) := hS_
            refine norm_ (a' := ?_) ?_ ?_
            rotate_left
            ·simp only [putAll, Act.put, List.setIfInBounds_toArray, List.set_cons_zero, List.set_cons_succ]
             rfl
            refine one_ (i := 13) (N := none) (tl_ 15 16383) rfl rfl (one_of HT_.out (g0_)) (by decide) (fun K hK => ?_)
            have hs42 : w41.cell? ⟨gb363, 0, none⟩ = some (.int .i64 0) := (blk_cell BK363.out 0).trans rfl
            have hfs42 := blk_frozen BK363.out 0
            have hns42_0 := NB342_363.out
            have hns42_1 := NB352_363.out
            have hms42_0 := NB363_342.out
            have hms42_1 := NB363_352.out
            have hs43 : w41.cell? ⟨gb363, 1, none⟩ = some (.int .i64 0) := (blk_cell BK363.out 1).trans rfl
            have hfs43 := blk_frozen BK363.out 1
            have hns43_0 := NB342_363.out
            have hns43_1 := NB352_363.out
            have hms43_0 := NB363_342.out
            have hms43_1 := NB363_352.out
            refine skip_ (w1 := ?_) (by rfl) rfl ?_ ?_
            rotate_left
            ·go_simp
             rfl
            refine hK.out _ _ ⟨((cell_far (p := ⟨gb363, _, none⟩) (by first | exact Nat.ne_of_lt (Nat.lt_of_lt_of_le (by have := World.block_lt_of_cell? _ _ hw358_0; first | rwa [add_block] at this | exact this) GW363.out) | (rw [add_block]; exact Nat.ne_of_lt (Nat.lt_of_lt_of_le (by have := World.block_lt_of_cell? _ _ hw358_0; first | rwa [add_block] at this | exact this) GW363.out)) | (show (Addr.add _ _).block ≠ _; rw [add_block]; exact Nat.ne_of_lt (Nat.lt_of_lt_of_le (by have := World.block_lt_of_cell? _ _ hw358_0; first | rwa [add_block] at this | exact this) GW363.out)) | (dsimp only; exact Nat.ne_of_lt (Nat.lt_of_lt_of_le (by have := World.block_lt_of_cell? _ _ hw358_0; first | rwa [add_block] at this | exact this) GW363.out))) _).trans (((cell_far (p := ⟨gb363, _, none⟩) (by first | exact Nat.ne_of_lt (Nat.lt_of_lt_of_le (by have := World.block_lt_of_cell? _ _ hw358_0; first | rwa [add_block] at this | exact this) GW363.out) | (rw [add_block]; exact Nat.ne_of_lt (Nat.lt_of_lt_of_le (by have := World.block_lt_of_cell? _ _ hw358_0; first | rwa [add_block] at this | exact this) GW363.out)) | (show (Addr.add _ _).block ≠ _; rw [add_block]; exact Nat.ne_of_lt (Nat.lt_of_lt_of_le (by have := World.block_lt_of_cell? _ _ hw358_0; first | rwa [add_block] at this | exact this) GW363.out)) | (dsimp only; exact Nat.ne_of_lt (Nat.lt_of_lt_of_le (by have := World.block_lt_of_cell? _ _ hw358_0; first | rwa [add_block] at this | exact this) GW363.out))) _).trans (hHeld.1)))), ((cell_far (p := ⟨gb363, _, none⟩) (g51_) _).trans (((cell_far (p := ⟨gb363, _, none⟩) (g51_) _).trans (hHeld.2))))⟩ (fun hHeld => ?_)
            clear hK K
            refine pw_ 14 14 (tl_ 15 32767) rfl rfl ?_
            refine done_ (done_of HT_.out (g0_)) ?_
            try go_wp2
            have n0_ : Aside0 (Kd.R (Kd.int .i64) 3 ((w41.setCell ⟨gb363, 0, none⟩ (.int .i64 t360)).setCell ⟨gb363, 1, none⟩ (.int .i64 t361)) w.heap.size (fun _ => True) (.slice (some ad359) t343.length co38) t343) := ⟨g95_⟩
            have n1_ : Aside0 (Kd.R k36 36 ((w41.setCell ⟨gb363, 0, none⟩ (.int .i64 t360)).setCell ⟨gb363, 1, none⟩ (.int .i64 t361)) w.heap.size (fun k_ => k_ ≠ gb352 ∧ k_ ≠ gb363) u7 x7_1) := ⟨g96_⟩
            have n2_ : Aside0 (((w41.setCell ⟨gb363, 0, none⟩ (.int .i64 t360)).setCell ⟨gb363, 1, none⟩ (.int .i64 t361)).heap[gb342]? = some (.cells #[.slice (some ad349) l0_0.length c0_0, .slice (some ad356) l0_1.length c0_1] 26 (0, 0))) := ⟨g97_⟩
            have n3_ : Aside0 (((w41.setCell ⟨gb363, 0, none⟩ (.int .i64 t360)).setCell ⟨gb363, 1, none⟩ (.int .i64 t361)).heap[gb352]? = some (.cells #[.int .i64 x353000_2, .int .i64 x353001_2] 36 (0, 0))) := ⟨g98_⟩
            have n4_ : Aside0 (((w41.setCell ⟨gb363, 0, none⟩ (.int .i64 t360)).setCell ⟨gb363, 1, none⟩ (.int .i64 t361)).heap[gb363]? = some (.cells #[.int .i64 t360, .int .i64 t361] 36 (0, 0))) := ⟨g99_⟩
            have n5_ : Aside0 (Below w.heap.size w ((w41.setCell ⟨gb363, 0, none⟩ (.int .i64 t360)).setCell ⟨gb363, 1, none⟩ (.int .i64 t361))) := ⟨impl_gets.calls_q0⟩
            (try clear HO_6)
            (try clear HO_7)
            (try clear BK342)
            (try clear BK352)
            (try clear BK363)
            (try clear HB)
            generalize ((w41.setCell ⟨gb363, 0, none⟩ (.int .i64 t360)).setCell ⟨gb363, 1, none⟩ (.int .i64 t361)) = w44 at n0_ n1_ n2_ n3_ n4_ n5_ ⊢
            have HO_6 := n0_
            have HO_7 := n1_
            have BK342 := n2_
            have BK352 := n3_
            have BK363 := n4_
            have HB := n5_
            clear n0_ n1_ n2_ n3_ n4_ n5_
            replace HO_6 := Aside0.mk (Kd.R_drew HO_6.out)
            replace HO_7 := Aside0.mk (Kd.R_drew HO_7.out)
            replace BK342 := Aside0.mk (blk_drew BK342.out)
            replace BK352 := Aside0.mk (blk_drew BK352.out)
            replace BK363 := Aside0.mk (blk_drew BK363.out)
            replace HB := Aside0.mk (below_drew1 HB.out)
            have p364 : 0 ≤ (x35_2 : Int) := of_decide_eq_true (g1_)
            have q364 : x35_2 < (l1.length : Int) := of_decide_eq_true (g1_)
            obtain ⟨ad364, e364, hx364_0, hx364_1⟩ := at_T36 HR1.out x35_2 p364 q364
            have hw364_1 := hx364_1
            have hw364_0 := hx364_0
            cases e364
            replace hx364_0 := cl_ HB hx364_0
            replace hx364_1 := cl_ HB hx364_1
            replace p364 := eq_true p364
            replace q364 := eq_true q364
            refine start_ (n := 12) (S := fun w' => w'.cell? ⟨gb363, 0, none⟩ = some (.int .i64 t360) ∧ w'.cell? ⟨gb363, 1, none⟩ = some (.int .i64 t361) ∧ w'.cell? (ad364.add ((x35_2).toNat * 2)) = some (.int .i64 ((rd_T36 l1 x35_2).f0)) ∧ w'.cell? ⟨(ad364.add ((x35_2).toNat * 2)).block, (ad364.add ((x35_2).toNat * 2)).off + 1, none⟩ = some (.int .i64 ((rd_T36 l1 x35_2).f1))) (ds := []) (tl_ 12 0) (g0_) rfl (g0_) ⟨(blk_cell BK363.out 0).trans rfl, (blk_cell BK363.out 1).trans rfl, ((cl_ HB hw364_0).trans rfl), ((cl_ HB hw364_1).trans rfl)⟩ (fun hHeld => ?_); refine with_tabW impl_gets.tab12 impl_gets.bits12 (fun HT_ HW_ => ?_)
            generalize w44.drew = w45 at HO_6 HO_7 BK342 BK352 BK363 HB hx364_0 hx364_1 hHeld ⊢
            refine pw_ 0 63 (tl_ 12 1) rfl rfl ?_
            refine pw_ 1 64 (tl_ 12 3) rfl rfl ?_
            refine pw_ 2 65 (tl_ 12 7) rfl rfl ?_
            refine tk0_ 3 66 (tl_ 12 15) rfl rfl hHeld ?_
            refine tk0_ 4 67 (tl_ 12 31) rfl rfl hHeld ?_
            refine join_ (σ := Nat) 2 (tl_ 12 1023) (fun s_ => [(68, .tuple #[.agg #[.int .i64 t365, .int .i64 t366], .bool true]), (15, .pointer (some ⟨s_, 0, none⟩)), (62, .tuple #[.agg #[.int .i64 t365, .int .i64 t366], .bool true]), (69, .agg #[.int .i64 t365, .int .i64 t366]), (70, .bool true)]) (fun s_ w' => (w'.cell? ⟨gb363, 0, none⟩ = some (.int .i64 t360) ∧ w'.cell? ⟨gb363, 1, none⟩ = some (.int .i64 t361) ∧ w'.cell? (ad364.add ((x35_2).toNat * 2)) = some (.int .i64 ((rd_T36 l1 x35_2).f0)) ∧ w'.cell? ⟨(ad364.add ((x35_2).toNat * 2)).block, (ad364.add ((x35_2).toNat * 2)).off + 1, none⟩ = some (.int .i64 ((rd_T36 l1 x35_2).f1))) ∧ (Kd.R (Kd.int .i64) 3 w' w.heap.size (fun _ => True) (.slice (some ad359) t343.length co38) t343) ∧ (Kd.R k36 36 w' w.heap.size (fun k_ => k_ ≠ gb352 ∧ k_ ≠ gb363 ∧ k_ ≠ s_) u7 x7_1) ∧ (w'.heap[gb342]? = some (.cells #[.slice (some ad349) l0_0.length c0_0, .slice (some ad356) l0_1.length c0_1] 26 (0, 0))) ∧ (w'.heap[gb352]? = some (.cells #[.int .i64 x353000_2, .int .i64 x353001_2] 36 (0, 0))) ∧ (w'.heap[gb363]? = some (.cells #[.int .i64 t360, .int .i64 t361] 36 (0, 0))) ∧ (w'.heap[s_]? = some (.cells #[.int .i64 0, .int .i64 0] 36 (0, 0))) ∧ (w.heap.size ≤ s_) ∧ (w.heap.size ≤ s_) ∧ (gb342 ≠ s_) ∧ (s_ ≠ gb342) ∧ (gb352 ≠ s_) ∧ (s_ ≠ gb352) ∧ (gb363 ≠ s_) ∧ (s_ ≠ gb363) ∧ (Below w.heap.size w w')) ?_ ?_
            rotate_left
            ·intro hCont
             refine two_ (i := 5) (j := 9) (Ni := some 68) (Nj := some 15) (tl_ 12 63) (tl_ 12 543) rfl rfl rfl rfl (two_of HT_.out (g0_)) (by decide) (by decide) (fun K hK => ?_) (fun K hK => ?_)
             ·skip
              refine goes_ Try.func83 (g0_) rfl #[.agg #[.int .i64 ((rd_T36 l1 x35_2).f0), .int .i64 ((rd_T36 l1 x35_2).f1)], .agg #[.int .i64 t360, .int .i64 t361]] (by rfl) rfl rfl (g2_) ?_
              with_reducible refine (impl_times.calls kj21 ((rd_T36 l1 x35_2).f0) ((rd_T36 l1 x35_2).f1) t360 t361 t365 t366 true _ A33.out).mono ?_
              rintro e w46 ⟨rfl, hb⟩
              refine ⟨_, rfl, ?_⟩
              replace HO_6 := Aside0.mk (Kd.R_below (uf1_ HO_6) hb)
              replace HO_7 := Aside0.mk (Kd.R_below (uf1_ HO_7) hb)
              replace BK342 := bb_ BK342 hb
              replace BK352 := bb_ BK352 hb
              replace BK363 := bb_ BK363 hb
              replace HB := Aside0.mk (below_step (impl_gets.calls_q0) hb)
              (try clear hb)
              (try clear hk hi)
              refine hK.out _ _ ⟨(blk_cell BK363.out 0).trans rfl, (blk_cell BK363.out 1).trans rfl, ((cl_ HB hw364_0).trans rfl), ((cl_ HB hw364_1).trans rfl)⟩ (fun hHeld => ?_)
              clear hK K
              refine nm_ ?_
              refine pw_ 6 62 (tl_ 12 127) rfl rfl ?_
              refine pw_ 7 69 (tl_ 12 255) rfl rfl ?_
              refine pw_ 8 70 (tl_ 12 511) rfl rfl ?_
              refine one_ (i := 9) (N := some 15) (tl_ 12 1023) rfl rfl (one_of HT_.out (g0_)) (by decide) (fun K hK => ?_)
              refine bs_ (N := 15) #[.int .i64 0, .int .i64 0] 36 ?_
              intro gb368 hg w47 hbox hb
              replace HO_6 := Aside0.mk (Kd.R_below (uf1_ HO_6) hb)
              replace HO_7 := Aside0.mk (Kd.R_below (Kd.R_elderB (uf1_ HO_7) gb368 (Nat.le_of_eq hg.symm)) hb)
              have BK368 := Aside0.mk (hbox)
              have GW368 := Aside0.mk ((g8_ : w.heap.size ≤ gb368))
              have GE368 := Aside0.mk ((g8_ : w.heap.size ≤ gb368))
              replace HB := Aside0.mk (below_step (impl_gets.calls_q0) hb)
              have NB342_368 := Aside0.mk ((g21_ : gb342 ≠ gb368))
              have NB368_342 := Aside0.mk ((g22_ : gb368 ≠ gb342))
              replace BK342 := bb_ BK342 hb
              have NB352_368 := Aside0.mk ((g23_ : gb352 ≠ gb368))
              have NB368_352 := Aside0.mk ((g24_ : gb368 ≠ gb352))
              replace BK352 := bb_ BK352 hb
              have NB363_368 := Aside0.mk ((g29_ : gb363 ≠ gb368))
              have NB368_363 := Aside0.mk ((g30_ : gb368 ≠ gb363))
              replace BK363 := bb_ BK363 hb
              clear hb hbox hg
              refine hK.out _ _ ⟨(blk_cell BK363.out 0).trans rfl, (blk_cell BK363.out 1).trans rfl, ((cl_ HB hw364_0).trans rfl), ((cl_ HB hw364_1).trans rfl)⟩ (fun hHeld => ?_)
              clear hK K
              refine nm_ ?_
              exact norm_ (g9_) (hCont (gb368) _ ⟨hHeld, (uf1_ HO_6), (g52_), (uf3_ BK342), (uf3_ BK352), (uf3_ BK363), (uf3_ BK368), GW368.out, GE368.out, NB342_368.out, NB368_342.out, NB352_368.out, NB368_352.out, NB363_368.out, NB368_363.out, (impl_gets.calls_q0)⟩)
             ·skip
              refine bs_ (N := 15) #[.int .i64 0, .int .i64 0] 36 ?_
              intro gb368 hg w46 hbox hb
              replace HO_6 := Aside0.mk (Kd.R_below (uf1_ HO_6) hb)
              replace HO_7 := Aside0.mk (Kd.R_below (Kd.R_elderB (uf1_ HO_7) gb368 (Nat.le_of_eq hg.symm)) hb)
              have BK368 := Aside0.mk (hbox)
              have GW368 := Aside0.mk ((g8_ : w.heap.size ≤ gb368))
              have GE368 := Aside0.mk ((g8_ : w.heap.size ≤ gb368))
              replace HB := Aside0.mk (below_step (impl_gets.calls_q0) hb)
              have NB342_368 := Aside0.mk ((g21_ : gb342 ≠ gb368))
              have NB368_342 := Aside0.mk ((g22_ : gb368 ≠ gb342))
              replace BK342 := bb_ BK342 hb
              have NB352_368 := Aside0.mk ((g23_ : gb352 ≠ gb368))
              have NB368_352 := Aside0.mk ((g24_ : gb368 ≠ gb352))
              replace BK352 := bb_ BK352 hb
              have NB363_368 := Aside0.mk ((g29_ : gb363 ≠ gb368))
              have NB368_363 := Aside0.mk ((g30_ : gb368 ≠ gb363))
              replace BK363 := bb_ BK363 hb
              clear hb hbox hg
              refine hK.out _ _ ⟨(blk_cell BK363.out 0).trans rfl, (blk_cell BK363.out 1).trans rfl, ((cl_ HB hw364_0).trans rfl), ((cl_ HB hw364_1).trans rfl)⟩ (fun hHeld => ?_)
              clear hK K
              refine nm_ ?_
              refine one_ (i := 5) (N := some 68) (tl_ 12 575) rfl rfl (one_of HT_.out (g0_)) (by decide) (fun K hK => ?_)
              refine goes_ Try.func83 (g0_) rfl #[.agg #[.int .i64 ((rd_T36 l1 x35_2).f0), .int .i64 ((rd_T36 l1 x35_2).f1)], .agg #[.int .i64 t360, .int .i64 t361]] (by rfl) rfl rfl (g2_) ?_
              with_reducible refine (impl_times.calls kj21 ((rd_T36 l1 x35_2).f0) ((rd_T36 l1 x35_2).f1) t360 t361 t365 t366 true _ A33.out).mono ?_
              rintro e w47 ⟨rfl, hb⟩
              refine ⟨_, rfl, ?_⟩
              replace HO_6 := Aside0.mk (Kd.R_below (uf1_ HO_6) hb)
              replace HO_7 := Aside0.mk (Kd.R_below (uf1_ HO_7) hb)
              replace BK342 := bb_ BK342 hb
              replace BK352 := bb_ BK352 hb
              replace BK363 := bb_ BK363 hb
              replace BK368 := bb_ BK368 hb
              replace HB := Aside0.mk (below_step (impl_gets.calls_q0) hb)
              (try clear hb)
              (try clear hk hi)
              refine hK.out _ _ ⟨(blk_cell BK363.out 0).trans rfl, (blk_cell BK363.out 1).trans rfl, ((cl_ HB hw364_0).trans rfl), ((cl_ HB hw364_1).trans rfl)⟩ (fun hHeld => ?_)
              clear hK K
              refine nm_ ?_
              refine pw_ 6 62 (tl_ 12 639) rfl rfl ?_
              refine pw_ 7 69 (tl_ 12 767) rfl rfl ?_
              refine pw_ 8 70 (tl_ 12 1023) rfl rfl ?_
              exact norm_ (g9_) (hCont (gb368) _ ⟨hHeld, (uf1_ HO_6), (g52_), (uf3_ BK342), (uf3_ BK352), (uf3_ BK363), (uf3_ BK368), GW368.out, GE368.out, NB342_368.out, NB368_342.out, NB352_368.out, NB368_352.out, NB363_368.out, NB368_363.out, (impl_gets.calls_q0)⟩)
            rintro gb368 w48 ⟨hS_, h0_, h1_, h2_, h3_, h4_, h5_, h6_, h7_, h8_, h9_, h10_, h11_, h12_, h13_, h14_⟩
            replace HO_6 : Aside0 (Kd.R (Kd.int .i64) 3 w48 w.heap.size (fun _ => True) (.slice (some ad359) t343.length co38) t343) := ⟨h0_⟩
            replace HO_7 : Aside0 (Kd.R k36 36 w48 w.heap.size (fun k_ => k_ ≠ gb352 ∧ k_ ≠ gb363 ∧ k_ ≠ gb368) u7 x7_1) := ⟨h1_⟩
            replace BK342 : Aside0 (w48.heap[gb342]? = some (.cells #[.slice (some ad349) l0_0.length c0_0, .slice (some ad356) l0_1.length c0_1] 26 (0, 0))) := ⟨h2_⟩
            replace BK352 : Aside0 (w48.heap[gb352]? = some (.cells #[.int .i64 x353000_2, .int .i64 x353001_2] 36 (0, 0))) := ⟨h3_⟩
            replace BK363 : Aside0 (w48.heap[gb363]? = some (.cells #[.int .i64 t360, .int .i64 t361] 36 (0, 0))) := ⟨h4_⟩
            have BK368 : Aside0 (w48.heap[gb368]? = some (.cells #[.int .i64 0, .int .i64 0] 36 (0, 0))) := ⟨h5_⟩
            have GW368 : Aside0 (w.heap.size ≤ gb368) := ⟨h6_⟩
            have GE368 : Aside0 (w.heap.size ≤ gb368) := ⟨h7_⟩
            have NB342_368 : Aside0 (gb342 ≠ gb368) := ⟨h8_⟩
            have NB368_342 : Aside0 (gb368 ≠ gb342) := ⟨h9_⟩
            have NB352_368 : Aside0 (gb352 ≠ gb368) := ⟨h10_⟩
            have NB368_352 : Aside0 (gb368 ≠ gb352) := ⟨h11_⟩
            have NB363_368 : Aside0 (gb363 ≠ gb368) := ⟨h12_⟩
            have NB368_363 : Aside0 (gb368 ≠ gb363) := ⟨h13_⟩
            replace HB : Aside0 (Below w.heap.size w w48) := ⟨h14_⟩
            clear h0_ h1_ h2_ h3_ h4_ h5_ h6_ h7_ h8_ h9_ h10_ h11_ h12_ h13_ h14_
            have hHeld : w48.cell? ⟨gb363, 0, none⟩ = some (.int .i64 t360) ∧ w48.cell? ⟨gb363, 1, none⟩ = some (.int .i64 t361) ∧ w48.cell? (ad364.add ((x35_2).toNat * 2)) = some (.int .i64 ((rd_T36 l1 x35_2).f0)) ∧ w48.cell? ⟨(ad364.add ((x35_2).toNat * 2)).block, (ad364.add ((x35_2).toNat * 2)).off + 1, none⟩ = some (.int .i64 ((rd_T36 l1 x35_2).f1)) := hS_
            refine norm_ (a' := ?_) ?_ ?_
            rotate_left
            ·simp only [putAll, Act.put, List.setIfInBounds_toArray, List.set_cons_zero, List.set_cons_succ]
             rfl
            refine one_ (i := 10) (N := none) (tl_ 12 2047) rfl rfl (one_of HT_.out (g0_)) (by decide) (fun K hK => ?_)
            have hs49 : w48.cell? ⟨gb368, 0, none⟩ = some (.int .i64 0) := (blk_cell BK368.out 0).trans rfl
            have hfs49 := blk_frozen BK368.out 0
            have hns49_0 := NB342_368.out
            have hns49_1 := NB352_368.out
            have hns49_2 := NB363_368.out
            have hms49_0 := NB368_342.out
            have hms49_1 := NB368_352.out
            have hms49_2 := NB368_363.out
            have hs50 : w48.cell? ⟨gb368, 1, none⟩ = some (.int .i64 0) := (blk_cell BK368.out 1).trans rfl
            have hfs50 := blk_frozen BK368.out 1
            have hns50_0 := NB342_368.out
            have hns50_1 := NB352_368.out
            have hns50_2 := NB363_368.out
            have hms50_0 := NB368_342.out
            have hms50_1 := NB368_352.out
            have hms50_2 := NB368_363.out
            refine skip_ (w1 := ?_) (by rfl) rfl ?_ ?_
            rotate_left
            ·go_simp
             rfl
            refine hK.out _ _ ⟨(cf_ NB363_368 ((cf_ NB363_368 (hHeld.1)))), (cf_ NB363_368 ((cf_ NB363_368 (hHeld.2.1)))), ((cell_far (p := ⟨gb368, _, none⟩) (by first | exact Nat.ne_of_lt (Nat.lt_of_lt_of_le (by have := World.block_lt_of_cell? _ _ hw364_0; first | rwa [add_block] at this | exact this) GW368.out) | (rw [add_block]; exact Nat.ne_of_lt (Nat.lt_of_lt_of_le (by have := World.block_lt_of_cell? _ _ hw364_0; first | rwa [add_block] at this | exact this) GW368.out)) | (show (Addr.add _ _).block ≠ _; rw [add_block]; exact Nat.ne_of_lt (Nat.lt_of_lt_of_le (by have := World.block_lt_of_cell? _ _ hw364_0; first | rwa [add_block] at this | exact this) GW368.out)) | (dsimp only; exact Nat.ne_of_lt (Nat.lt_of_lt_of_le (by have := World.block_lt_of_cell? _ _ hw364_0; first | rwa [add_block] at this | exact this) GW368.out))) _).trans (((cell_far (p := ⟨gb368, _, none⟩) (by first | exact Nat.ne_of_lt (Nat.lt_of_lt_of_le (by have := World.block_lt_of_cell? _ _ hw364_0; first | rwa [add_block] at this | exact this) GW368.out) | (rw [add_block]; exact Nat.ne_of_lt (Nat.lt_of_lt_of_le (by have := World.block_lt_of_cell? _ _ hw364_0; first | rwa [add_block] at this | exact this) GW368.out)) | (show (Addr.add _ _).block ≠ _; rw [add_block]; exact Nat.ne_of_lt (Nat.lt_of_lt_of_le (by have := World.block_lt_of_cell? _ _ hw364_0; first | rwa [add_block] at this | exact this) GW368.out)) | (dsimp only; exact Nat.ne_of_lt (Nat.lt_of_lt_of_le (by have := World.block_lt_of_cell? _ _ hw364_0; first | rwa [add_block] at this | exact this) GW368.out))) _).trans (hHeld.2.2.1)))), ((cell_far (p := ⟨gb368, _, none⟩) (by first | exact Nat.ne_of_lt (Nat.lt_of_lt_of_le (by have := World.block_lt_of_cell? _ _ hw364_1; first | rwa [add_block] at this | exact this) GW368.out) | (rw [add_block]; exact Nat.ne_of_lt (Nat.lt_of_lt_of_le (by have := World.block_lt_of_cell? _ _ hw364_1; first | rwa [add_block] at this | exact this) GW368.out)) | (show (Addr.add _ _).block ≠ _; rw [add_block]; exact Nat.ne_of_lt (Nat.lt_of_lt_of_le (by have := World.block_lt_of_cell? _ _ hw364_1; first | rwa [add_block] at this | exact this) GW368.out)) | (dsimp only; exact Nat.ne_of_lt (Nat.lt_of_lt_of_le (by have := World.block_lt_of_cell? _ _ hw364_1; first | rwa [add_block] at this | exact this) GW368.out))) _).trans (((cell_far (p := ⟨gb368, _, none⟩) (by first | exact Nat.ne_of_lt (Nat.lt_of_lt_of_le (by have := World.block_lt_of_cell? _ _ hw364_1; first | rwa [add_block] at this | exact this) GW368.out) | (rw [add_block]; exact Nat.ne_of_lt (Nat.lt_of_lt_of_le (by have := World.block_lt_of_cell? _ _ hw364_1; first | rwa [add_block] at this | exact this) GW368.out)) | (show (Addr.add _ _).block ≠ _; rw [add_block]; exact Nat.ne_of_lt (Nat.lt_of_lt_of_le (by have := World.block_lt_of_cell? _ _ hw364_1; first | rwa [add_block] at this | exact this) GW368.out)) | (dsimp only; exact Nat.ne_of_lt (Nat.lt_of_lt_of_le (by have := World.block_lt_of_cell? _ _ hw364_1; first | rwa [add_block] at this | exact this) GW368.out))) _).trans (hHeld.2.2.2))))⟩ (fun hHeld => ?_)
            clear hK K
            refine pw_ 11 16 (tl_ 12 4095) rfl rfl ?_
            refine done_ (done_of HT_.out (g0_)) ?_
            have hnb51 := NB352_342.out
            have hnc51 := NB342_352.out
            have hnb52 := NB352_363.out
            have hnc52 := NB363_352.out
            have hnb53 := NB352_368.out
            have hnc53 := NB368_352.out
            obtain ⟨hcz54_0, hcz54_1, hfz54_0, hfz54_1⟩ := blk2_ BK352
            have hnb55 := NB368_342.out
            have hnc55 := NB342_368.out
            have hnb56 := NB368_363.out
            have hnc56 := NB363_368.out
            obtain ⟨hcz57_0, hcz57_1, hfz57_0, hfz57_1⟩ := blk2_ BK368
            try go_wp2_with (first | ((with_reducible refine gate_callee (f := 70) rfl ?_); refine goesL_ (some 74) rfl rfl Try.func70 k_ rfl #[.agg #[.int .i64 x353000_2, .int .i64 x353001_2], .agg #[.int .i64 t365, .int .i64 t366]] rfl (g2_) ?_; (with_reducible refine (impl_plus.calls kj21 x353000_2 x353001_2 t365 t366 t369 t370 true _ A34.out).mono ?_); rintro e w58 ⟨rfl, hb⟩; refine ⟨_, rfl, ?_⟩; replace HO_6 := Aside0.mk (Kd.R_below (g100_) hb); replace HO_7 := Aside0.mk (Kd.R_below (g101_) hb); replace BK342 := Aside0.mk (blk_below (g := gb342) (o := .cells #[.slice (some ad349) l0_0.length c0_0, .slice (some ad356) l0_1.length c0_1] 26 (0, 0)) (g102_) hb); replace BK352 := Aside0.mk (blk_below (g := gb352) (o := .cells #[.int .i64 x353000_2, .int .i64 x353001_2] 36 (0, 0)) (g103_) hb); replace BK363 := Aside0.mk (blk_below (g := gb363) (o := .cells #[.int .i64 t360, .int .i64 t361] 36 (0, 0)) (g104_) hb); replace BK368 := Aside0.mk (blk_below (g := gb368) (o := .cells #[.int .i64 t365, .int .i64 t366] 36 (0, 0)) (g105_) hb); replace HB := Aside0.mk (below_step (impl_gets.calls_q0) hb); (try clear hb); (try clear hk hi)) | ((with_reducible refine gate_dst (N := 17) rfl ?_); refine bx_ (N := 17) #[.int .i64 0, .int .i64 0] 36 ?_; intro gb372 hg w59 hbox hb; replace HO_6 := Aside0.mk (Kd.R_below (uf1_ HO_6) hb); replace HO_7 := Aside0.mk (Kd.R_below (Kd.R_elderB (uf1_ HO_7) gb372 (Nat.le_of_eq hg.symm)) hb); have BK372 := Aside0.mk (hbox); have GW372 := Aside0.mk ((g8_ : w.heap.size ≤ gb372)); have GE372 := Aside0.mk ((g8_ : w.heap.size ≤ gb372)); replace HB := Aside0.mk (below_step (impl_gets.calls_q0) hb); have NB342_372 := Aside0.mk ((g21_ : gb342 ≠ gb372)); have NB372_342 := Aside0.mk ((g22_ : gb372 ≠ gb342)); replace BK342 := bb_ BK342 hb; have NB352_372 := Aside0.mk ((g23_ : gb352 ≠ gb372)); have NB372_352 := Aside0.mk ((g24_ : gb372 ≠ gb352)); replace BK352 := bb_ BK352 hb; have NB363_372 := Aside0.mk ((g29_ : gb363 ≠ gb372)); have NB372_363 := Aside0.mk ((g30_ : gb372 ≠ gb363)); replace BK363 := bb_ BK363 hb; have NB368_372 := Aside0.mk ((g106_ : gb368 ≠ gb372)); have NB372_368 := Aside0.mk ((g107_ : gb372 ≠ gb368)); replace BK368 := bb_ BK368 hb; clear hb hbox hg; have hnb60 := NB372_342.out; have hnc60 := NB342_372.out; have hnb61 := NB372_352.out; have hnc61 := NB352_372.out; have hnb62 := NB372_363.out; have hnc62 := NB363_372.out; have hnb63 := NB372_368.out; have hnc63 := NB368_372.out; obtain ⟨hcz64_0, hcz64_1, hfz64_0, hfz64_1⟩ := blk2_ BK372; obtain ⟨hcz65_0, hcz65_1, hfz65_0, hfz65_1⟩ := blk2_ BK352))
            go_roundg kj21
            case measure => have := HK1.out; have := HK2.out; have := HJ21.out; omega
            case rel => exact ⟨(wrap64 (x35_2 + 1)), (t369), (t370), (g3_), H', ⟨by have := HK1.out; have := HK2.out; have := HJ21.out; omega⟩, ⟨by (with_reducible repeat (first | apply Kd.R_alloc | apply Kd.R_drewN | apply Kd.R_drew)); exact Kd.R_mono (Kd.R_far (p := ⟨gb352, 1, none⟩) (Kd.R_far (p := ⟨gb352, 0, none⟩) (Kd.R_far (p := ⟨gb372, 1, none⟩) (Kd.R_far (p := ⟨gb372, 0, none⟩) (Kd.R_types (Kd.R_types HO_6.out BK372.out (by decide)) BK352.out (by decide)) (fun _ hk => hk.1.2) (.int .i64 t369)) (fun _ hk => hk.1.2) (.int .i64 t370)) (fun _ hk => hk.2) (.int .i64 t369)) (fun _ hk => hk.2) (.int .i64 t370)) (fun _ hk => trivial)⟩, ⟨by (with_reducible repeat (first | apply Kd.R_alloc | apply Kd.R_drewN | apply Kd.R_drew)); exact Kd.R_mono (Kd.R_far (p := ⟨gb352, 1, none⟩) (Kd.R_far (p := ⟨gb352, 0, none⟩) (Kd.R_far (p := ⟨gb372, 1, none⟩) (Kd.R_far (p := ⟨gb372, 0, none⟩) (Kd.R_mono (Kd.R_mono HO_7.out (fun k_ hk => (⟨hk, hk.2⟩ : _ ∧ k_ ≠ gb372))) (fun k_ hk => (⟨hk, hk.1.1.1⟩ : _ ∧ k_ ≠ gb352))) (fun _ hk => hk.1.2) (.int .i64 t369)) (fun _ hk => hk.1.2) (.int .i64 t370)) (fun _ hk => hk.2) (.int .i64 t369)) (fun _ hk => hk.2) (.int .i64 t370)) (fun _ hk => hk.1.1.1.1)⟩, ⟨by (with_reducible repeat (first | refine blk_drewN ?_ _ | refine blk_drew ?_ | refine blk_alloc ?_ _)); refine blk_far ?_ NB342_352.out _; (with_reducible repeat (first | refine blk_drewN ?_ _ | refine blk_drew ?_ | refine blk_alloc ?_ _)); refine blk_far ?_ NB342_352.out _; (with_reducible repeat (first | refine blk_drewN ?_ _ | refine blk_drew ?_ | refine blk_alloc ?_ _)); refine blk_far ?_ NB342_372.out _; (with_reducible repeat (first | refine blk_drewN ?_ _ | refine blk_drew ?_ | refine blk_alloc ?_ _)); refine blk_far ?_ NB342_372.out _; (with_reducible repeat (first | refine blk_drewN ?_ _ | refine blk_drew ?_ | refine blk_alloc ?_ _)); exact BK342.out⟩, ⟨by (with_reducible repeat (first | refine blk_drewN ?_ _ | refine blk_drew ?_ | refine blk_alloc ?_ _)); refine blk_put (cs := #[.int .i64 t369, .int .i64 x353001_2]) ?_ 1 _ rfl; (with_reducible repeat (first | refine blk_drewN ?_ _ | refine blk_drew ?_ | refine blk_alloc ?_ _)); refine blk_put (cs := #[.int .i64 x353000_2, .int .i64 x353001_2]) ?_ 0 _ rfl; (with_reducible repeat (first | refine blk_drewN ?_ _ | refine blk_drew ?_ | refine blk_alloc ?_ _)); refine blk_far ?_ NB352_372.out _; (with_reducible repeat (first | refine blk_drewN ?_ _ | refine blk_drew ?_ | refine blk_alloc ?_ _)); refine blk_far ?_ NB352_372.out _; (with_reducible repeat (first | refine blk_drewN ?_ _ | refine blk_drew ?_ | refine blk_alloc ?_ _)); exact BK352.out⟩, ⟨impl_gets.calls_q0⟩⟩
           ·replace c36 := Bool.eq_false_iff.mpr c36
            subst c36
            replace H := ifn_ H
            simp only [Option.some.injEq, Prod.mk.injEq] at H
            obtain ⟨rfl, rfl⟩ := H
            try go_wp2
            replace HO_6 := Aside0.mk (Kd.R_drew HO_6.out)
            replace HO_7 := Aside0.mk (Kd.R_drew HO_7.out)
            replace BK342 := Aside0.mk (blk_drew BK342.out)
            replace BK352 := Aside0.mk (blk_drew BK352.out)
            replace HB := Aside0.mk (below_drew1 HB.out)
            have p358 : 0 ≤ (x25_1 : Int) := of_decide_eq_true (g1_)
            have q358 : x25_1 < ((rd_L1 l0_1 x35_2).length : Int) := of_decide_eq_true (g1_)
            obtain ⟨ad358, e358, hx358_0⟩ := Kd.at_int HR356_0.out x25_1 p358 q358
            have hw358_0 := hx358_0
            cases e358
            replace hx358_0 := cl_ HB hx358_0
            replace p358 := eq_true p358
            replace q358 := eq_true q358
            obtain ⟨Ao67, co67, eo67⟩ := Kd.R_slice HO_6.out
            (first | subst eo67 | (injection eo67 with f1_ f2_ f3_; have f4_ := f1_.symm; have f5_ := f3_.symm; clear f1_ f2_ f3_; subst f4_; subst f5_))
            have p359 : 0 ≤ (x35_2 : Int) := of_decide_eq_true (g1_)
            have q359 : x35_2 < (t343.length : Int) := of_decide_eq_true (g1_)
            obtain ⟨ad359, e359, hx359_0⟩ := Kd.at_int (Kd.R_reads' HO_6.out).2.2 x35_2 p359 q359
            cases e359
            replace p359 := eq_true p359
            replace q359 := eq_true q359
            refine start_ (n := 15) (S := fun w' => w'.cell? (ad358.add (x25_1).toNat) = some (.int .i64 (rd (rd_L1 l0_1 x35_2) x25_1)) ∧ w'.cell? (ad359.add (x35_2).toNat) = some (.int .i64 (rd t343 x35_2))) (ds := []) (tl_ 15 0) (g0_) rfl (g0_) ⟨((cl_ HB hw358_0).trans rfl), hx359_0⟩ (fun hHeld => ?_); refine with_tabW impl_gets.tab11 impl_gets.bits11 (fun HT_ HW_ => ?_)
            generalize wc.drew = w66 at HO_6 HO_7 BK342 BK352 HB hx358_0 hx359_0 hHeld ⊢
            refine pw_ 0 51 (tl_ 15 1) rfl rfl ?_
            refine pw_ 1 52 (tl_ 15 3) rfl rfl ?_
            refine pw_ 2 53 (tl_ 15 7) rfl rfl ?_
            refine pw_ 4 55 (tl_ 15 23) rfl rfl ?_
            refine pw_ 5 56 (tl_ 15 55) rfl rfl ?_
            refine pw_ 6 57 (tl_ 15 119) rfl rfl ?_
            refine tk4_ 3 54 (tl_ 15 127) rfl rfl hHeld ?_
            refine tk4_ 7 58 (tl_ 15 255) rfl rfl hHeld ?_
            refine join_ (σ := Nat) 2 (tl_ 15 8191) (fun s_ => [(59, .tuple #[.agg #[.int .i64 t360, .int .i64 t361], .bool t362]), (13, .pointer (some ⟨s_, 0, none⟩)), (50, .tuple #[.agg #[.int .i64 t360, .int .i64 t361], .bool t362]), (60, .agg #[.int .i64 t360, .int .i64 t361]), (61, .bool t362)]) (fun s_ w' => (w'.cell? (ad358.add (x25_1).toNat) = some (.int .i64 (rd (rd_L1 l0_1 x35_2) x25_1)) ∧ w'.cell? (ad359.add (x35_2).toNat) = some (.int .i64 (rd t343 x35_2))) ∧ (Kd.R (Kd.int .i64) 3 w' w.heap.size (fun _ => True) (.slice (some ad359) t343.length co67) t343) ∧ (Kd.R k36 36 w' w.heap.size (fun k_ => k_ ≠ gb352 ∧ k_ ≠ s_) u7 x7_1) ∧ (w'.heap[gb342]? = some (.cells #[.slice (some ad349) l0_0.length c0_0, .slice (some ad356) l0_1.length c0_1] 26 (0, 0))) ∧ (w'.heap[gb352]? = some (.cells #[.int .i64 x353000_2, .int .i64 x353001_2] 36 (0, 0))) ∧ (w'.heap[s_]? = some (.cells #[.int .i64 0, .int .i64 0] 36 (0, 0))) ∧ (w.heap.size ≤ s_) ∧ (w.heap.size ≤ s_) ∧ (gb342 ≠ s_) ∧ (s_ ≠ gb342) ∧ (gb352 ≠ s_) ∧ (s_ ≠ gb352) ∧ (Below w.heap.size w w')) ?_ ?_
            rotate_left
            ·intro hCont
             refine two_ (i := 8) (j := 12) (Ni := some 59) (Nj := some 13) (tl_ 15 511) (tl_ 15 4351) rfl rfl rfl rfl (two_of HT_.out (g0_)) (by decide) (by decide) (fun K hK => ?_) (fun K hK => ?_)
             ·skip
              refine goes_ Try.func82 (g0_) rfl #[.int .i64 (rd (rd_L1 l0_1 x35_2) x25_1), .int .i64 (rd t343 x35_2)] (by rfl) rfl rfl (g2_) ?_
              with_reducible refine (impl_lowest.calls kj21 (rd (rd_L1 l0_1 x35_2) x25_1) (rd t343 x35_2) t360 t361 t362 _ A31.out).mono ?_
              rintro e w68 ⟨rfl, hb⟩
              have HS1_ := (hb.cell (World.block_lt_of_cell? _ _ (hHeld.2))).trans (hHeld.2)
              refine ⟨_, rfl, ?_⟩
              replace HO_6 := Aside0.mk (Kd.R_below (uf1_ HO_6) hb)
              replace HO_7 := Aside0.mk (Kd.R_below (uf1_ HO_7) hb)
              replace BK342 := bb_ BK342 hb
              replace BK352 := bb_ BK352 hb
              replace HB := Aside0.mk (below_step (impl_gets.calls_q0) hb)
              (try clear hb)
              (try clear hk hi)
              refine hK.out _ _ ⟨((cl_ HB hw358_0).trans rfl), HS1_⟩ (fun hHeld => ?_)
              clear hK K
              refine nm_ ?_
              refine pw_ 9 50 (tl_ 15 1023) rfl rfl ?_
              refine pw_ 10 60 (tl_ 15 2047) rfl rfl ?_
              refine pw_ 11 61 (tl_ 15 4095) rfl rfl ?_
              refine one_ (i := 12) (N := some 13) (tl_ 15 8191) rfl rfl (one_of HT_.out (g0_)) (by decide) (fun K hK => ?_)
              refine bs_ (N := 13) #[.int .i64 0, .int .i64 0] 36 ?_
              intro gb363 hg w69 hbox hb
              have HS1_ := (hb.cell (World.block_lt_of_cell? _ _ (hHeld.2))).trans (hHeld.2)
              replace HO_6 := Aside0.mk (Kd.R_below (uf1_ HO_6) hb)
              replace HO_7 := Aside0.mk (Kd.R_below (Kd.R_elderB (uf1_ HO_7) gb363 (Nat.le_of_eq hg.symm)) hb)
              have BK363 := Aside0.mk (hbox)
              have GW363 := Aside0.mk ((g8_ : w.heap.size ≤ gb363))
              have GE363 := Aside0.mk ((g8_ : w.heap.size ≤ gb363))
              replace HB := Aside0.mk (below_step (impl_gets.calls_q0) hb)
              have NB342_363 := Aside0.mk ((g21_ : gb342 ≠ gb363))
              have NB363_342 := Aside0.mk ((g22_ : gb363 ≠ gb342))
              replace BK342 := bb_ BK342 hb
              have NB352_363 := Aside0.mk ((g23_ : gb352 ≠ gb363))
              have NB363_352 := Aside0.mk ((g24_ : gb363 ≠ gb352))
              replace BK352 := bb_ BK352 hb
              clear hb hbox hg
              refine hK.out _ _ ⟨((cl_ HB hw358_0).trans rfl), HS1_⟩ (fun hHeld => ?_)
              clear hK K
              refine nm_ ?_
              exact norm_ (g9_) (hCont (gb363) _ ⟨hHeld, (uf1_ HO_6), (uf1_ HO_7), (uf3_ BK342), (uf3_ BK352), (uf3_ BK363), GW363.out, GE363.out, NB342_363.out, NB363_342.out, NB352_363.out, NB363_352.out, (impl_gets.calls_q0)⟩)
             ·skip
              refine bs_ (N := 13) #[.int .i64 0, .int .i64 0] 36 ?_
              intro gb363 hg w68 hbox hb
              have HS1_ := (hb.cell (World.block_lt_of_cell? _ _ (hHeld.2))).trans (hHeld.2)
              replace HO_6 := Aside0.mk (Kd.R_below (uf1_ HO_6) hb)
              replace HO_7 := Aside0.mk (Kd.R_below (Kd.R_elderB (uf1_ HO_7) gb363 (Nat.le_of_eq hg.symm)) hb)
              have BK363 := Aside0.mk (hbox)
              have GW363 := Aside0.mk ((g8_ : w.heap.size ≤ gb363))
              have GE363 := Aside0.mk ((g8_ : w.heap.size ≤ gb363))
              replace HB := Aside0.mk (below_step (impl_gets.calls_q0) hb)
              have NB342_363 := Aside0.mk ((g21_ : gb342 ≠ gb363))
              have NB363_342 := Aside0.mk ((g22_ : gb363 ≠ gb342))
              replace BK342 := bb_ BK342 hb
              have NB352_363 := Aside0.mk ((g23_ : gb352 ≠ gb363))
              have NB363_352 := Aside0.mk ((g24_ : gb363 ≠ gb352))
              replace BK352 := bb_ BK352 hb
              clear hb hbox hg
              refine hK.out _ _ ⟨((cl_ HB hw358_0).trans rfl), HS1_⟩ (fun hHeld => ?_)
              clear hK K
              refine nm_ ?_
              refine one_ (i := 8) (N := some 59) (tl_ 15 4607) rfl rfl (one_of HT_.out (g0_)) (by decide) (fun K hK => ?_)
              refine goes_ Try.func82 (g0_) rfl #[.int .i64 (rd (rd_L1 l0_1 x35_2) x25_1), .int .i64 (rd t343 x35_2)] (by rfl) rfl rfl (g2_) ?_
              with_reducible refine (impl_lowest.calls kj21 (rd (rd_L1 l0_1 x35_2) x25_1) (rd t343 x35_2) t360 t361 t362 _ A31.out).mono ?_
              rintro e w69 ⟨rfl, hb⟩
              have HS1_ := (hb.cell (World.block_lt_of_cell? _ _ (hHeld.2))).trans (hHeld.2)
              refine ⟨_, rfl, ?_⟩
              replace HO_6 := Aside0.mk (Kd.R_below (uf1_ HO_6) hb)
              replace HO_7 := Aside0.mk (Kd.R_below (uf1_ HO_7) hb)
              replace BK342 := bb_ BK342 hb
              replace BK352 := bb_ BK352 hb
              replace BK363 := bb_ BK363 hb
              replace HB := Aside0.mk (below_step (impl_gets.calls_q0) hb)
              (try clear hb)
              (try clear hk hi)
              refine hK.out _ _ ⟨((cl_ HB hw358_0).trans rfl), HS1_⟩ (fun hHeld => ?_)
              clear hK K
              refine nm_ ?_
              refine pw_ 9 50 (tl_ 15 5119) rfl rfl ?_
              refine pw_ 10 60 (tl_ 15 6143) rfl rfl ?_
              refine pw_ 11 61 (tl_ 15 8191) rfl rfl ?_
              exact norm_ (g9_) (hCont (gb363) _ ⟨hHeld, (uf1_ HO_6), (uf1_ HO_7), (uf3_ BK342), (uf3_ BK352), (uf3_ BK363), GW363.out, GE363.out, NB342_363.out, NB363_342.out, NB352_363.out, NB363_352.out, (impl_gets.calls_q0)⟩)
            rintro gb363 w70 ⟨hS_, h0_, h1_, h2_, h3_, h4_, h5_, h6_, h7_, h8_, h9_, h10_, h11_⟩
            replace HO_6 : Aside0 (Kd.R (Kd.int .i64) 3 w70 w.heap.size (fun _ => True) (.slice (some ad359) t343.length co67) t343) := ⟨h0_⟩
            replace HO_7 : Aside0 (Kd.R k36 36 w70 w.heap.size (fun k_ => k_ ≠ gb352 ∧ k_ ≠ gb363) u7 x7_1) := ⟨h1_⟩
            replace BK342 : Aside0 (w70.heap[gb342]? = some (.cells #[.slice (some ad349) l0_0.length c0_0, .slice (some ad356) l0_1.length c0_1] 26 (0, 0))) := ⟨h2_⟩
            replace BK352 : Aside0 (w70.heap[gb352]? = some (.cells #[.int .i64 x353000_2, .int .i64 x353001_2] 36 (0, 0))) := ⟨h3_⟩
            have BK363 : Aside0 (w70.heap[gb363]? = some (.cells #[.int .i64 0, .int .i64 0] 36 (0, 0))) := ⟨h4_⟩
            have GW363 : Aside0 (w.heap.size ≤ gb363) := ⟨h5_⟩
            have GE363 : Aside0 (w.heap.size ≤ gb363) := ⟨h6_⟩
            have NB342_363 : Aside0 (gb342 ≠ gb363) := ⟨h7_⟩
            have NB363_342 : Aside0 (gb363 ≠ gb342) := ⟨h8_⟩
            have NB352_363 : Aside0 (gb352 ≠ gb363) := ⟨h9_⟩
            have NB363_352 : Aside0 (gb363 ≠ gb352) := ⟨h10_⟩
            replace HB : Aside0 (Below w.heap.size w w70) := ⟨h11_⟩
            clear h0_ h1_ h2_ h3_ h4_ h5_ h6_ h7_ h8_ h9_ h10_ h11_
            have hHeld : w70.cell? (ad358.add (x25_1).toNat) = some (.int .i64 (rd (rd_L1 l0_1 x35_2) x25_1)) ∧ w70.cell? (ad359.add (x35_2).toNat) = some (.int .i64 (rd t343 x35_2)) := hS_
            refine norm_ (a' := ?_) ?_ ?_
            rotate_left
            ·simp only [putAll, Act.put, List.setIfInBounds_toArray, List.set_cons_zero, List.set_cons_succ]
             rfl
            refine one_ (i := 13) (N := none) (tl_ 15 16383) rfl rfl (one_of HT_.out (g0_)) (by decide) (fun K hK => ?_)
            have hs71 : w70.cell? ⟨gb363, 0, none⟩ = some (.int .i64 0) := (blk_cell BK363.out 0).trans rfl
            have hfs71 := blk_frozen BK363.out 0
            have hns71_0 := NB342_363.out
            have hns71_1 := NB352_363.out
            have hms71_0 := NB363_342.out
            have hms71_1 := NB363_352.out
            have hs72 : w70.cell? ⟨gb363, 1, none⟩ = some (.int .i64 0) := (blk_cell BK363.out 1).trans rfl
            have hfs72 := blk_frozen BK363.out 1
            have hns72_0 := NB342_363.out
            have hns72_1 := NB352_363.out
            have hms72_0 := NB363_342.out
            have hms72_1 := NB363_352.out
            refine skip_ (w1 := ?_) (by rfl) rfl ?_ ?_
            rotate_left
            ·go_simp
             rfl
            refine hK.out _ _ ⟨((cell_far (p := ⟨gb363, _, none⟩) (by first | exact Nat.ne_of_lt (Nat.lt_of_lt_of_le (by have := World.block_lt_of_cell? _ _ hw358_0; first | rwa [add_block] at this | exact this) GW363.out) | (rw [add_block]; exact Nat.ne_of_lt (Nat.lt_of_lt_of_le (by have := World.block_lt_of_cell? _ _ hw358_0; first | rwa [add_block] at this | exact this) GW363.out)) | (show (Addr.add _ _).block ≠ _; rw [add_block]; exact Nat.ne_of_lt (Nat.lt_of_lt_of_le (by have := World.block_lt_of_cell? _ _ hw358_0; first | rwa [add_block] at this | exact this) GW363.out)) | (dsimp only; exact Nat.ne_of_lt (Nat.lt_of_lt_of_le (by have := World.block_lt_of_cell? _ _ hw358_0; first | rwa [add_block] at this | exact this) GW363.out))) _).trans (((cell_far (p := ⟨gb363, _, none⟩) (by first | exact Nat.ne_of_lt (Nat.lt_of_lt_of_le (by have := World.block_lt_of_cell? _ _ hw358_0; first | rwa [add_block] at this | exact this) GW363.out) | (rw [add_block]; exact Nat.ne_of_lt (Nat.lt_of_lt_of_le (by have := World.block_lt_of_cell? _ _ hw358_0; first | rwa [add_block] at this | exact this) GW363.out)) | (show (Addr.add _ _).block ≠ _; rw [add_block]; exact Nat.ne_of_lt (Nat.lt_of_lt_of_le (by have := World.block_lt_of_cell? _ _ hw358_0; first | rwa [add_block] at this | exact this) GW363.out)) | (dsimp only; exact Nat.ne_of_lt (Nat.lt_of_lt_of_le (by have := World.block_lt_of_cell? _ _ hw358_0; first | rwa [add_block] at this | exact this) GW363.out))) _).trans (hHeld.1)))), ((cell_far (p := ⟨gb363, _, none⟩) (g51_) _).trans (((cell_far (p := ⟨gb363, _, none⟩) (g51_) _).trans (hHeld.2))))⟩ (fun hHeld => ?_)
            clear hK K
            refine pw_ 14 14 (tl_ 15 32767) rfl rfl ?_
            refine done_ (done_of HT_.out (g0_)) ?_
            try go_wp2
            have n0_ : Aside0 (Kd.R (Kd.int .i64) 3 ((w70.setCell ⟨gb363, 0, none⟩ (.int .i64 t360)).setCell ⟨gb363, 1, none⟩ (.int .i64 t361)) w.heap.size (fun _ => True) (.slice (some ad359) t343.length co67) t343) := ⟨g95_⟩
            have n1_ : Aside0 (Kd.R k36 36 ((w70.setCell ⟨gb363, 0, none⟩ (.int .i64 t360)).setCell ⟨gb363, 1, none⟩ (.int .i64 t361)) w.heap.size (fun k_ => k_ ≠ gb352 ∧ k_ ≠ gb363) u7 x7_1) := ⟨g96_⟩
            have n2_ : Aside0 (((w70.setCell ⟨gb363, 0, none⟩ (.int .i64 t360)).setCell ⟨gb363, 1, none⟩ (.int .i64 t361)).heap[gb342]? = some (.cells #[.slice (some ad349) l0_0.length c0_0, .slice (some ad356) l0_1.length c0_1] 26 (0, 0))) := ⟨g97_⟩
            have n3_ : Aside0 (((w70.setCell ⟨gb363, 0, none⟩ (.int .i64 t360)).setCell ⟨gb363, 1, none⟩ (.int .i64 t361)).heap[gb352]? = some (.cells #[.int .i64 x353000_2, .int .i64 x353001_2] 36 (0, 0))) := ⟨g98_⟩
            have n4_ : Aside0 (((w70.setCell ⟨gb363, 0, none⟩ (.int .i64 t360)).setCell ⟨gb363, 1, none⟩ (.int .i64 t361)).heap[gb363]? = some (.cells #[.int .i64 t360, .int .i64 t361] 36 (0, 0))) := ⟨g99_⟩
            have n5_ : Aside0 (Below w.heap.size w ((w70.setCell ⟨gb363, 0, none⟩ (.int .i64 t360)).setCell ⟨gb363, 1, none⟩ (.int .i64 t361))) := ⟨impl_gets.calls_q0⟩
            (try clear HO_6)
            (try clear HO_7)
            (try clear BK342)
            (try clear BK352)
            (try clear BK363)
            (try clear HB)
            generalize ((w70.setCell ⟨gb363, 0, none⟩ (.int .i64 t360)).setCell ⟨gb363, 1, none⟩ (.int .i64 t361)) = w73 at n0_ n1_ n2_ n3_ n4_ n5_ ⊢
            have HO_6 := n0_
            have HO_7 := n1_
            have BK342 := n2_
            have BK352 := n3_
            have BK363 := n4_
            have HB := n5_
            clear n0_ n1_ n2_ n3_ n4_ n5_
            replace HO_6 := Aside0.mk (Kd.R_drew HO_6.out)
            replace HO_7 := Aside0.mk (Kd.R_drew HO_7.out)
            replace BK342 := Aside0.mk (blk_drew BK342.out)
            replace BK352 := Aside0.mk (blk_drew BK352.out)
            replace BK363 := Aside0.mk (blk_drew BK363.out)
            replace HB := Aside0.mk (below_drew1 HB.out)
            have p364 : 0 ≤ (x35_2 : Int) := of_decide_eq_true (g1_)
            have q364 : x35_2 < (l1.length : Int) := of_decide_eq_true (g1_)
            obtain ⟨ad364, e364, hx364_0, hx364_1⟩ := at_T36 HR1.out x35_2 p364 q364
            have hw364_1 := hx364_1
            have hw364_0 := hx364_0
            cases e364
            replace hx364_0 := cl_ HB hx364_0
            replace hx364_1 := cl_ HB hx364_1
            replace p364 := eq_true p364
            replace q364 := eq_true q364
            refine start_ (n := 12) (S := fun w' => w'.cell? ⟨gb363, 0, none⟩ = some (.int .i64 t360) ∧ w'.cell? ⟨gb363, 1, none⟩ = some (.int .i64 t361) ∧ w'.cell? (ad364.add ((x35_2).toNat * 2)) = some (.int .i64 ((rd_T36 l1 x35_2).f0)) ∧ w'.cell? ⟨(ad364.add ((x35_2).toNat * 2)).block, (ad364.add ((x35_2).toNat * 2)).off + 1, none⟩ = some (.int .i64 ((rd_T36 l1 x35_2).f1))) (ds := []) (tl_ 12 0) (g0_) rfl (g0_) ⟨(blk_cell BK363.out 0).trans rfl, (blk_cell BK363.out 1).trans rfl, ((cl_ HB hw364_0).trans rfl), ((cl_ HB hw364_1).trans rfl)⟩ (fun hHeld => ?_); refine with_tabW impl_gets.tab12 impl_gets.bits12 (fun HT_ HW_ => ?_)
            generalize w73.drew = w74 at HO_6 HO_7 BK342 BK352 BK363 HB hx364_0 hx364_1 hHeld ⊢
            refine pw_ 0 63 (tl_ 12 1) rfl rfl ?_
            refine pw_ 1 64 (tl_ 12 3) rfl rfl ?_
            refine pw_ 2 65 (tl_ 12 7) rfl rfl ?_
            refine tk0_ 3 66 (tl_ 12 15) rfl rfl hHeld ?_
            refine tk0_ 4 67 (tl_ 12 31) rfl rfl hHeld ?_
            refine join_ (σ := Nat) 2 (tl_ 12 1023) (fun s_ => [(68, .tuple #[.agg #[.int .i64 t365, .int .i64 t366], .bool true]), (15, .pointer (some ⟨s_, 0, none⟩)), (62, .tuple #[.agg #[.int .i64 t365, .int .i64 t366], .bool true]), (69, .agg #[.int .i64 t365, .int .i64 t366]), (70, .bool true)]) (fun s_ w' => (w'.cell? ⟨gb363, 0, none⟩ = some (.int .i64 t360) ∧ w'.cell? ⟨gb363, 1, none⟩ = some (.int .i64 t361) ∧ w'.cell? (ad364.add ((x35_2).toNat * 2)) = some (.int .i64 ((rd_T36 l1 x35_2).f0)) ∧ w'.cell? ⟨(ad364.add ((x35_2).toNat * 2)).block, (ad364.add ((x35_2).toNat * 2)).off + 1, none⟩ = some (.int .i64 ((rd_T36 l1 x35_2).f1))) ∧ (Kd.R (Kd.int .i64) 3 w' w.heap.size (fun _ => True) (.slice (some ad359) t343.length co67) t343) ∧ (Kd.R k36 36 w' w.heap.size (fun k_ => k_ ≠ gb352 ∧ k_ ≠ gb363 ∧ k_ ≠ s_) u7 x7_1) ∧ (w'.heap[gb342]? = some (.cells #[.slice (some ad349) l0_0.length c0_0, .slice (some ad356) l0_1.length c0_1] 26 (0, 0))) ∧ (w'.heap[gb352]? = some (.cells #[.int .i64 x353000_2, .int .i64 x353001_2] 36 (0, 0))) ∧ (w'.heap[gb363]? = some (.cells #[.int .i64 t360, .int .i64 t361] 36 (0, 0))) ∧ (w'.heap[s_]? = some (.cells #[.int .i64 0, .int .i64 0] 36 (0, 0))) ∧ (w.heap.size ≤ s_) ∧ (w.heap.size ≤ s_) ∧ (gb342 ≠ s_) ∧ (s_ ≠ gb342) ∧ (gb352 ≠ s_) ∧ (s_ ≠ gb352) ∧ (gb363 ≠ s_) ∧ (s_ ≠ gb363) ∧ (Below w.heap.size w w')) ?_ ?_
            rotate_left
            ·intro hCont
             refine two_ (i := 5) (j := 9) (Ni := some 68) (Nj := some 15) (tl_ 12 63) (tl_ 12 543) rfl rfl rfl rfl (two_of HT_.out (g0_)) (by decide) (by decide) (fun K hK => ?_) (fun K hK => ?_)
             ·skip
              refine goes_ Try.func83 (g0_) rfl #[.agg #[.int .i64 ((rd_T36 l1 x35_2).f0), .int .i64 ((rd_T36 l1 x35_2).f1)], .agg #[.int .i64 t360, .int .i64 t361]] (by rfl) rfl rfl (g2_) ?_
              with_reducible refine (impl_times.calls kj21 ((rd_T36 l1 x35_2).f0) ((rd_T36 l1 x35_2).f1) t360 t361 t365 t366 true _ A33.out).mono ?_
              rintro e w75 ⟨rfl, hb⟩
              refine ⟨_, rfl, ?_⟩
              replace HO_6 := Aside0.mk (Kd.R_below (uf1_ HO_6) hb)
              replace HO_7 := Aside0.mk (Kd.R_below (uf1_ HO_7) hb)
              replace BK342 := bb_ BK342 hb
              replace BK352 := bb_ BK352 hb
              replace BK363 := bb_ BK363 hb
              replace HB := Aside0.mk (below_step (impl_gets.calls_q0) hb)
              (try clear hb)
              (try clear hk hi)
              refine hK.out _ _ ⟨(blk_cell BK363.out 0).trans rfl, (blk_cell BK363.out 1).trans rfl, ((cl_ HB hw364_0).trans rfl), ((cl_ HB hw364_1).trans rfl)⟩ (fun hHeld => ?_)
              clear hK K
              refine nm_ ?_
              refine pw_ 6 62 (tl_ 12 127) rfl rfl ?_
              refine pw_ 7 69 (tl_ 12 255) rfl rfl ?_
              refine pw_ 8 70 (tl_ 12 511) rfl rfl ?_
              refine one_ (i := 9) (N := some 15) (tl_ 12 1023) rfl rfl (one_of HT_.out (g0_)) (by decide) (fun K hK => ?_)
              refine bs_ (N := 15) #[.int .i64 0, .int .i64 0] 36 ?_
              intro gb368 hg w76 hbox hb
              replace HO_6 := Aside0.mk (Kd.R_below (uf1_ HO_6) hb)
              replace HO_7 := Aside0.mk (Kd.R_below (Kd.R_elderB (uf1_ HO_7) gb368 (Nat.le_of_eq hg.symm)) hb)
              have BK368 := Aside0.mk (hbox)
              have GW368 := Aside0.mk ((g8_ : w.heap.size ≤ gb368))
              have GE368 := Aside0.mk ((g8_ : w.heap.size ≤ gb368))
              replace HB := Aside0.mk (below_step (impl_gets.calls_q0) hb)
              have NB342_368 := Aside0.mk ((g21_ : gb342 ≠ gb368))
              have NB368_342 := Aside0.mk ((g22_ : gb368 ≠ gb342))
              replace BK342 := bb_ BK342 hb
              have NB352_368 := Aside0.mk ((g23_ : gb352 ≠ gb368))
              have NB368_352 := Aside0.mk ((g24_ : gb368 ≠ gb352))
              replace BK352 := bb_ BK352 hb
              have NB363_368 := Aside0.mk ((g29_ : gb363 ≠ gb368))
              have NB368_363 := Aside0.mk ((g30_ : gb368 ≠ gb363))
              replace BK363 := bb_ BK363 hb
              clear hb hbox hg
              refine hK.out _ _ ⟨(blk_cell BK363.out 0).trans rfl, (blk_cell BK363.out 1).trans rfl, ((cl_ HB hw364_0).trans rfl), ((cl_ HB hw364_1).trans rfl)⟩ (fun hHeld => ?_)
              clear hK K
              refine nm_ ?_
              exact norm_ (g9_) (hCont (gb368) _ ⟨hHeld, (uf1_ HO_6), (g52_), (uf3_ BK342), (uf3_ BK352), (uf3_ BK363), (uf3_ BK368), GW368.out, GE368.out, NB342_368.out, NB368_342.out, NB352_368.out, NB368_352.out, NB363_368.out, NB368_363.out, (impl_gets.calls_q0)⟩)
             ·skip
              refine bs_ (N := 15) #[.int .i64 0, .int .i64 0] 36 ?_
              intro gb368 hg w75 hbox hb
              replace HO_6 := Aside0.mk (Kd.R_below (uf1_ HO_6) hb)
              replace HO_7 := Aside0.mk (Kd.R_below (Kd.R_elderB (uf1_ HO_7) gb368 (Nat.le_of_eq hg.symm)) hb)
              have BK368 := Aside0.mk (hbox)
              have GW368 := Aside0.mk ((g8_ : w.heap.size ≤ gb368))
              have GE368 := Aside0.mk ((g8_ : w.heap.size ≤ gb368))
              replace HB := Aside0.mk (below_step (impl_gets.calls_q0) hb)
              have NB342_368 := Aside0.mk ((g21_ : gb342 ≠ gb368))
              have NB368_342 := Aside0.mk ((g22_ : gb368 ≠ gb342))
              replace BK342 := bb_ BK342 hb
              have NB352_368 := Aside0.mk ((g23_ : gb352 ≠ gb368))
              have NB368_352 := Aside0.mk ((g24_ : gb368 ≠ gb352))
              replace BK352 := bb_ BK352 hb
              have NB363_368 := Aside0.mk ((g29_ : gb363 ≠ gb368))
              have NB368_363 := Aside0.mk ((g30_ : gb368 ≠ gb363))
              replace BK363 := bb_ BK363 hb
              clear hb hbox hg
              refine hK.out _ _ ⟨(blk_cell BK363.out 0).trans rfl, (blk_cell BK363.out 1).trans rfl, ((cl_ HB hw364_0).trans rfl), ((cl_ HB hw364_1).trans rfl)⟩ (fun hHeld => ?_)
              clear hK K
              refine nm_ ?_
              refine one_ (i := 5) (N := some 68) (tl_ 12 575) rfl rfl (one_of HT_.out (g0_)) (by decide) (fun K hK => ?_)
              refine goes_ Try.func83 (g0_) rfl #[.agg #[.int .i64 ((rd_T36 l1 x35_2).f0), .int .i64 ((rd_T36 l1 x35_2).f1)], .agg #[.int .i64 t360, .int .i64 t361]] (by rfl) rfl rfl (g2_) ?_
              with_reducible refine (impl_times.calls kj21 ((rd_T36 l1 x35_2).f0) ((rd_T36 l1 x35_2).f1) t360 t361 t365 t366 true _ A33.out).mono ?_
              rintro e w76 ⟨rfl, hb⟩
              refine ⟨_, rfl, ?_⟩
              replace HO_6 := Aside0.mk (Kd.R_below (uf1_ HO_6) hb)
              replace HO_7 := Aside0.mk (Kd.R_below (uf1_ HO_7) hb)
              replace BK342 := bb_ BK342 hb
              replace BK352 := bb_ BK352 hb
              replace BK363 := bb_ BK363 hb
              replace BK368 := bb_ BK368 hb
              replace HB := Aside0.mk (below_step (impl_gets.calls_q0) hb)
              (try clear hb)
              (try clear hk hi)
              refine hK.out _ _ ⟨(blk_cell BK363.out 0).trans rfl, (blk_cell BK363.out 1).trans rfl, ((cl_ HB hw364_0).trans rfl), ((cl_ HB hw364_1).trans rfl)⟩ (fun hHeld => ?_)
              clear hK K
              refine nm_ ?_
              refine pw_ 6 62 (tl_ 12 639) rfl rfl ?_
              refine pw_ 7 69 (tl_ 12 767) rfl rfl ?_
              refine pw_ 8 70 (tl_ 12 1023) rfl rfl ?_
              exact norm_ (g9_) (hCont (gb368) _ ⟨hHeld, (uf1_ HO_6), (g52_), (uf3_ BK342), (uf3_ BK352), (uf3_ BK363), (uf3_ BK368), GW368.out, GE368.out, NB342_368.out, NB368_342.out, NB352_368.out, NB368_352.out, NB363_368.out, NB368_363.out, (impl_gets.calls_q0)⟩)
            rintro gb368 w77 ⟨hS_, h0_, h1_, h2_, h3_, h4_, h5_, h6_, h7_, h8_, h9_, h10_, h11_, h12_, h13_, h14_⟩
            replace HO_6 : Aside0 (Kd.R (Kd.int .i64) 3 w77 w.heap.size (fun _ => True) (.slice (some ad359) t343.length co67) t343) := ⟨h0_⟩
            replace HO_7 : Aside0 (Kd.R k36 36 w77 w.heap.size (fun k_ => k_ ≠ gb352 ∧ k_ ≠ gb363 ∧ k_ ≠ gb368) u7 x7_1) := ⟨h1_⟩
            replace BK342 : Aside0 (w77.heap[gb342]? = some (.cells #[.slice (some ad349) l0_0.length c0_0, .slice (some ad356) l0_1.length c0_1] 26 (0, 0))) := ⟨h2_⟩
            replace BK352 : Aside0 (w77.heap[gb352]? = some (.cells #[.int .i64 x353000_2, .int .i64 x353001_2] 36 (0, 0))) := ⟨h3_⟩
            replace BK363 : Aside0 (w77.heap[gb363]? = some (.cells #[.int .i64 t360, .int .i64 t361] 36 (0, 0))) := ⟨h4_⟩
            have BK368 : Aside0 (w77.heap[gb368]? = some (.cells #[.int .i64 0, .int .i64 0] 36 (0, 0))) := ⟨h5_⟩
            have GW368 : Aside0 (w.heap.size ≤ gb368) := ⟨h6_⟩
            have GE368 : Aside0 (w.heap.size ≤ gb368) := ⟨h7_⟩
            have NB342_368 : Aside0 (gb342 ≠ gb368) := ⟨h8_⟩
            have NB368_342 : Aside0 (gb368 ≠ gb342) := ⟨h9_⟩
            have NB352_368 : Aside0 (gb352 ≠ gb368) := ⟨h10_⟩
            have NB368_352 : Aside0 (gb368 ≠ gb352) := ⟨h11_⟩
            have NB363_368 : Aside0 (gb363 ≠ gb368) := ⟨h12_⟩
            have NB368_363 : Aside0 (gb368 ≠ gb363) := ⟨h13_⟩
            replace HB : Aside0 (Below w.heap.size w w77) := ⟨h14_⟩
            clear h0_ h1_ h2_ h3_ h4_ h5_ h6_ h7_ h8_ h9_ h10_ h11_ h12_ h13_ h14_
            have hHeld : w77.cell? ⟨gb363, 0, none⟩ = some (.int .i64 t360) ∧ w77.cell? ⟨gb363, 1, none⟩ = some (.int .i64 t361) ∧ w77.cell? (ad364.add ((x35_2).toNat * 2)) = some (.int .i64 ((rd_T36 l1 x35_2).f0)) ∧ w77.cell? ⟨(ad364.add ((x35_2).toNat * 2)).block, (ad364.add ((x35_2).toNat * 2)).off + 1, none⟩ = some (.int .i64 ((rd_T36 l1 x35_2).f1)) := hS_
            refine norm_ (a' := ?_) ?_ ?_
            rotate_left
            ·simp only [putAll, Act.put, List.setIfInBounds_toArray, List.set_cons_zero, List.set_cons_succ]
             rfl
            refine one_ (i := 10) (N := none) (tl_ 12 2047) rfl rfl (one_of HT_.out (g0_)) (by decide) (fun K hK => ?_)
            have hs78 : w77.cell? ⟨gb368, 0, none⟩ = some (.int .i64 0) := (blk_cell BK368.out 0).trans rfl
            have hfs78 := blk_frozen BK368.out 0
            have hns78_0 := NB342_368.out
            have hns78_1 := NB352_368.out
            have hns78_2 := NB363_368.out
            have hms78_0 := NB368_342.out
            have hms78_1 := NB368_352.out
            have hms78_2 := NB368_363.out
            have hs79 : w77.cell? ⟨gb368, 1, none⟩ = some (.int .i64 0) := (blk_cell BK368.out 1).trans rfl
            have hfs79 := blk_frozen BK368.out 1
            have hns79_0 := NB342_368.out
            have hns79_1 := NB352_368.out
            have hns79_2 := NB363_368.out
            have hms79_0 := NB368_342.out
            have hms79_1 := NB368_352.out
            have hms79_2 := NB368_363.out
            refine skip_ (w1 := ?_) (by rfl) rfl ?_ ?_
            rotate_left
            ·go_simp
             rfl
            refine hK.out _ _ ⟨(cf_ NB363_368 ((cf_ NB363_368 (hHeld.1)))), (cf_ NB363_368 ((cf_ NB363_368 (hHeld.2.1)))), ((cell_far (p := ⟨gb368, _, none⟩) (by first | exact Nat.ne_of_lt (Nat.lt_of_lt_of_le (by have := World.block_lt_of_cell? _ _ hw364_0; first | rwa [add_block] at this | exact this) GW368.out) | (rw [add_block]; exact Nat.ne_of_lt (Nat.lt_of_lt_of_le (by have := World.block_lt_of_cell? _ _ hw364_0; first | rwa [add_block] at this | exact this) GW368.out)) | (show (Addr.add _ _).block ≠ _; rw [add_block]; exact Nat.ne_of_lt (Nat.lt_of_lt_of_le (by have := World.block_lt_of_cell? _ _ hw364_0; first | rwa [add_block] at this | exact this) GW368.out)) | (dsimp only; exact Nat.ne_of_lt (Nat.lt_of_lt_of_le (by have := World.block_lt_of_cell? _ _ hw364_0; first | rwa [add_block] at this | exact this) GW368.out))) _).trans (((cell_far (p := ⟨gb368, _, none⟩) (by first | exact Nat.ne_of_lt (Nat.lt_of_lt_of_le (by have := World.block_lt_of_cell? _ _ hw364_0; first | rwa [add_block] at this | exact this) GW368.out) | (rw [add_block]; exact Nat.ne_of_lt (Nat.lt_of_lt_of_le (by have := World.block_lt_of_cell? _ _ hw364_0; first | rwa [add_block] at this | exact this) GW368.out)) | (show (Addr.add _ _).block ≠ _; rw [add_block]; exact Nat.ne_of_lt (Nat.lt_of_lt_of_le (by have := World.block_lt_of_cell? _ _ hw364_0; first | rwa [add_block] at this | exact this) GW368.out)) | (dsimp only; exact Nat.ne_of_lt (Nat.lt_of_lt_of_le (by have := World.block_lt_of_cell? _ _ hw364_0; first | rwa [add_block] at this | exact this) GW368.out))) _).trans (hHeld.2.2.1)))), ((cell_far (p := ⟨gb368, _, none⟩) (by first | exact Nat.ne_of_lt (Nat.lt_of_lt_of_le (by have := World.block_lt_of_cell? _ _ hw364_1; first | rwa [add_block] at this | exact this) GW368.out) | (rw [add_block]; exact Nat.ne_of_lt (Nat.lt_of_lt_of_le (by have := World.block_lt_of_cell? _ _ hw364_1; first | rwa [add_block] at this | exact this) GW368.out)) | (show (Addr.add _ _).block ≠ _; rw [add_block]; exact Nat.ne_of_lt (Nat.lt_of_lt_of_le (by have := World.block_lt_of_cell? _ _ hw364_1; first | rwa [add_block] at this | exact this) GW368.out)) | (dsimp only; exact Nat.ne_of_lt (Nat.lt_of_lt_of_le (by have := World.block_lt_of_cell? _ _ hw364_1; first | rwa [add_block] at this | exact this) GW368.out))) _).trans (((cell_far (p := ⟨gb368, _, none⟩) (by first | exact Nat.ne_of_lt (Nat.lt_of_lt_of_le (by have := World.block_lt_of_cell? _ _ hw364_1; first | rwa [add_block] at this | exact this) GW368.out) | (rw [add_block]; exact Nat.ne_of_lt (Nat.lt_of_lt_of_le (by have := World.block_lt_of_cell? _ _ hw364_1; first | rwa [add_block] at this | exact this) GW368.out)) | (show (Addr.add _ _).block ≠ _; rw [add_block]; exact Nat.ne_of_lt (Nat.lt_of_lt_of_le (by have := World.block_lt_of_cell? _ _ hw364_1; first | rwa [add_block] at this | exact this) GW368.out)) | (dsimp only; exact Nat.ne_of_lt (Nat.lt_of_lt_of_le (by have := World.block_lt_of_cell? _ _ hw364_1; first | rwa [add_block] at this | exact this) GW368.out))) _).trans (hHeld.2.2.2))))⟩ (fun hHeld => ?_)
            clear hK K
            refine pw_ 11 16 (tl_ 12 4095) rfl rfl ?_
            refine done_ (done_of HT_.out (g0_)) ?_
            have hnb80 := NB352_342.out
            have hnc80 := NB342_352.out
            have hnb81 := NB352_363.out
            have hnc81 := NB363_352.out
            have hnb82 := NB352_368.out
            have hnc82 := NB368_352.out
            obtain ⟨hcz83_0, hcz83_1, hfz83_0, hfz83_1⟩ := blk2_ BK352
            have hnb84 := NB368_342.out
            have hnc84 := NB342_368.out
            have hnb85 := NB368_363.out
            have hnc85 := NB363_368.out
            obtain ⟨hcz86_0, hcz86_1, hfz86_0, hfz86_1⟩ := blk2_ BK368
            try go_wp2_with (first | ((with_reducible refine gate_callee (f := 70) rfl ?_); refine goesL_ (some 74) rfl rfl Try.func70 k_ rfl #[.agg #[.int .i64 x353000_2, .int .i64 x353001_2], .agg #[.int .i64 t365, .int .i64 t366]] rfl (g2_) ?_; (with_reducible refine (impl_plus.calls kj21 x353000_2 x353001_2 t365 t366 t369 t370 false _ A34.out).mono ?_); rintro e w87 ⟨rfl, hb⟩; refine ⟨_, rfl, ?_⟩; replace HO_6 := Aside0.mk (Kd.R_below (g100_) hb); replace HO_7 := Aside0.mk (Kd.R_below (g101_) hb); replace BK342 := Aside0.mk (blk_below (g := gb342) (o := .cells #[.slice (some ad349) l0_0.length c0_0, .slice (some ad356) l0_1.length c0_1] 26 (0, 0)) (g102_) hb); replace BK352 := Aside0.mk (blk_below (g := gb352) (o := .cells #[.int .i64 x353000_2, .int .i64 x353001_2] 36 (0, 0)) (g103_) hb); replace BK363 := Aside0.mk (blk_below (g := gb363) (o := .cells #[.int .i64 t360, .int .i64 t361] 36 (0, 0)) (g104_) hb); replace BK368 := Aside0.mk (blk_below (g := gb368) (o := .cells #[.int .i64 t365, .int .i64 t366] 36 (0, 0)) (g105_) hb); replace HB := Aside0.mk (below_step (impl_gets.calls_q0) hb); (try clear hb); (try clear hk hi)) | ((with_reducible refine gate_dst (N := 17) rfl ?_); refine bx_ (N := 17) #[.int .i64 0, .int .i64 0] 36 ?_; intro gb372 hg w88 hbox hb; replace HO_6 := Aside0.mk (Kd.R_below (uf1_ HO_6) hb); replace HO_7 := Aside0.mk (Kd.R_below (Kd.R_elderB (uf1_ HO_7) gb372 (Nat.le_of_eq hg.symm)) hb); have BK372 := Aside0.mk (hbox); have GW372 := Aside0.mk ((g8_ : w.heap.size ≤ gb372)); have GE372 := Aside0.mk ((g8_ : w.heap.size ≤ gb372)); replace HB := Aside0.mk (below_step (impl_gets.calls_q0) hb); have NB342_372 := Aside0.mk ((g21_ : gb342 ≠ gb372)); have NB372_342 := Aside0.mk ((g22_ : gb372 ≠ gb342)); replace BK342 := bb_ BK342 hb; have NB352_372 := Aside0.mk ((g23_ : gb352 ≠ gb372)); have NB372_352 := Aside0.mk ((g24_ : gb372 ≠ gb352)); replace BK352 := bb_ BK352 hb; have NB363_372 := Aside0.mk ((g29_ : gb363 ≠ gb372)); have NB372_363 := Aside0.mk ((g30_ : gb372 ≠ gb363)); replace BK363 := bb_ BK363 hb; have NB368_372 := Aside0.mk ((g106_ : gb368 ≠ gb372)); have NB372_368 := Aside0.mk ((g107_ : gb372 ≠ gb368)); replace BK368 := bb_ BK368 hb; clear hb hbox hg; have hnb89 := NB372_342.out; have hnc89 := NB342_372.out; have hnb90 := NB372_352.out; have hnc90 := NB352_372.out; have hnb91 := NB372_363.out; have hnc91 := NB363_372.out; have hnb92 := NB372_368.out; have hnc92 := NB368_372.out; obtain ⟨hcz93_0, hcz93_1, hfz93_0, hfz93_1⟩ := blk2_ BK372))
            go_ret2
            exact ⟨_, g4_, g36_, impl_gets.calls_q0⟩
          ·replace c35 := Bool.eq_false_iff.mpr c35
           subst c35
           replace H := ifn_ H
           simp only [Option.some.injEq, Prod.mk.injEq] at H
           obtain ⟨rfl, rfl⟩ := H
           try go_wp2
           replace HO_6 := Aside0.mk (Kd.R_drew HO_6.out)
           replace HO_7 := Aside0.mk (Kd.R_drew HO_7.out)
           replace BK342 := Aside0.mk (blk_drew BK342.out)
           replace BK352 := Aside0.mk (blk_drew BK352.out)
           replace HB := Aside0.mk (below_drew1 HB.out)
           have p358 : 0 ≤ (x25_1 : Int) := of_decide_eq_true (g1_)
           have q358 : x25_1 < ((rd_L1 l0_1 x35_2).length : Int) := of_decide_eq_true (g1_)
           obtain ⟨ad358, e358, hx358_0⟩ := Kd.at_int HR356_0.out x25_1 p358 q358
           have hw358_0 := hx358_0
           cases e358
           replace hx358_0 := cl_ HB hx358_0
           replace p358 := eq_true p358
           replace q358 := eq_true q358
           obtain ⟨Ao95, co95, eo95⟩ := Kd.R_slice HO_6.out
           (first | subst eo95 | (injection eo95 with f1_ f2_ f3_; have f4_ := f1_.symm; have f5_ := f3_.symm; clear f1_ f2_ f3_; subst f4_; subst f5_))
           have p359 : 0 ≤ (x35_2 : Int) := of_decide_eq_true (g1_)
           have q359 : x35_2 < (t343.length : Int) := of_decide_eq_true (g1_)
           obtain ⟨ad359, e359, hx359_0⟩ := Kd.at_int (Kd.R_reads' HO_6.out).2.2 x35_2 p359 q359
           cases e359
           replace p359 := eq_true p359
           replace q359 := eq_true q359
           refine start_ (n := 15) (S := fun w' => w'.cell? (ad358.add (x25_1).toNat) = some (.int .i64 (rd (rd_L1 l0_1 x35_2) x25_1)) ∧ w'.cell? (ad359.add (x35_2).toNat) = some (.int .i64 (rd t343 x35_2))) (ds := []) (tl_ 15 0) (g0_) rfl (g0_) ⟨((cl_ HB hw358_0).trans rfl), hx359_0⟩ (fun hHeld => ?_); refine with_tabW impl_gets.tab11 impl_gets.bits11 (fun HT_ HW_ => ?_)
           generalize wc.drew = w94 at HO_6 HO_7 BK342 BK352 HB hx358_0 hx359_0 hHeld ⊢
           refine pw_ 0 51 (tl_ 15 1) rfl rfl ?_
           refine pw_ 1 52 (tl_ 15 3) rfl rfl ?_
           refine pw_ 2 53 (tl_ 15 7) rfl rfl ?_
           refine pw_ 4 55 (tl_ 15 23) rfl rfl ?_
           refine pw_ 5 56 (tl_ 15 55) rfl rfl ?_
           refine pw_ 6 57 (tl_ 15 119) rfl rfl ?_
           refine tk4_ 3 54 (tl_ 15 127) rfl rfl hHeld ?_
           refine tk4_ 7 58 (tl_ 15 255) rfl rfl hHeld ?_
           refine join_ (σ := Nat) 2 (tl_ 15 8191) (fun s_ => [(59, .tuple #[.agg #[.int .i64 t360, .int .i64 t361], .bool t362]), (13, .pointer (some ⟨s_, 0, none⟩)), (50, .tuple #[.agg #[.int .i64 t360, .int .i64 t361], .bool t362]), (60, .agg #[.int .i64 t360, .int .i64 t361]), (61, .bool t362)]) (fun s_ w' => (w'.cell? (ad358.add (x25_1).toNat) = some (.int .i64 (rd (rd_L1 l0_1 x35_2) x25_1)) ∧ w'.cell? (ad359.add (x35_2).toNat) = some (.int .i64 (rd t343 x35_2))) ∧ (Kd.R (Kd.int .i64) 3 w' w.heap.size (fun _ => True) (.slice (some ad359) t343.length co95) t343) ∧ (Kd.R k36 36 w' w.heap.size (fun k_ => k_ ≠ gb352 ∧ k_ ≠ s_) u7 x7_1) ∧ (w'.heap[gb342]? = some (.cells #[.slice (some ad349) l0_0.length c0_0, .slice (some ad356) l0_1.length c0_1] 26 (0, 0))) ∧ (w'.heap[gb352]? = some (.cells #[.int .i64 x353000_2, .int .i64 x353001_2] 36 (0, 0))) ∧ (w'.heap[s_]? = some (.cells #[.int .i64 0, .int .i64 0] 36 (0, 0))) ∧ (w.heap.size ≤ s_) ∧ (w.heap.size ≤ s_) ∧ (gb342 ≠ s_) ∧ (s_ ≠ gb342) ∧ (gb352 ≠ s_) ∧ (s_ ≠ gb352) ∧ (Below w.heap.size w w')) ?_ ?_
           rotate_left
           ·intro hCont
            refine two_ (i := 8) (j := 12) (Ni := some 59) (Nj := some 13) (tl_ 15 511) (tl_ 15 4351) rfl rfl rfl rfl (two_of HT_.out (g0_)) (by decide) (by decide) (fun K hK => ?_) (fun K hK => ?_)
            ·skip
             refine goes_ Try.func82 (g0_) rfl #[.int .i64 (rd (rd_L1 l0_1 x35_2) x25_1), .int .i64 (rd t343 x35_2)] (by rfl) rfl rfl (g2_) ?_
             with_reducible refine (impl_lowest.calls kj21 (rd (rd_L1 l0_1 x35_2) x25_1) (rd t343 x35_2) t360 t361 t362 _ A31.out).mono ?_
             rintro e w96 ⟨rfl, hb⟩
             have HS1_ := (hb.cell (World.block_lt_of_cell? _ _ (hHeld.2))).trans (hHeld.2)
             refine ⟨_, rfl, ?_⟩
             replace HO_6 := Aside0.mk (Kd.R_below (uf1_ HO_6) hb)
             replace HO_7 := Aside0.mk (Kd.R_below (uf1_ HO_7) hb)
             replace BK342 := bb_ BK342 hb
             replace BK352 := bb_ BK352 hb
             replace HB := Aside0.mk (below_step (impl_gets.calls_q0) hb)
             (try clear hb)
             (try clear hk hi)
             refine hK.out _ _ ⟨((cl_ HB hw358_0).trans rfl), HS1_⟩ (fun hHeld => ?_)
             clear hK K
             refine nm_ ?_
             refine pw_ 9 50 (tl_ 15 1023) rfl rfl ?_
             refine pw_ 10 60 (tl_ 15 2047) rfl rfl ?_
             refine pw_ 11 61 (tl_ 15 4095) rfl rfl ?_
             refine one_ (i := 12) (N := some 13) (tl_ 15 8191) rfl rfl (one_of HT_.out (g0_)) (by decide) (fun K hK => ?_)
             refine bs_ (N := 13) #[.int .i64 0, .int .i64 0] 36 ?_
             intro gb363 hg w97 hbox hb
             have HS1_ := (hb.cell (World.block_lt_of_cell? _ _ (hHeld.2))).trans (hHeld.2)
             replace HO_6 := Aside0.mk (Kd.R_below (uf1_ HO_6) hb)
             replace HO_7 := Aside0.mk (Kd.R_below (Kd.R_elderB (uf1_ HO_7) gb363 (Nat.le_of_eq hg.symm)) hb)
             have BK363 := Aside0.mk (hbox)
             have GW363 := Aside0.mk ((g8_ : w.heap.size ≤ gb363))
             have GE363 := Aside0.mk ((g8_ : w.heap.size ≤ gb363))
             replace HB := Aside0.mk (below_step (impl_gets.calls_q0) hb)
             have NB342_363 := Aside0.mk ((g21_ : gb342 ≠ gb363))
             have NB363_342 := Aside0.mk ((g22_ : gb363 ≠ gb342))
             replace BK342 := bb_ BK342 hb
             have NB352_363 := Aside0.mk ((g23_ : gb352 ≠ gb363))
             have NB363_352 := Aside0.mk ((g24_ : gb363 ≠ gb352))
             replace BK352 := bb_ BK352 hb
             clear hb hbox hg
             refine hK.out _ _ ⟨((cl_ HB hw358_0).trans rfl), HS1_⟩ (fun hHeld => ?_)
             clear hK K
             refine nm_ ?_
             exact norm_ (g9_) (hCont (gb363) _ ⟨hHeld, (uf1_ HO_6), (uf1_ HO_7), (uf3_ BK342), (uf3_ BK352), (uf3_ BK363), GW363.out, GE363.out, NB342_363.out, NB363_342.out, NB352_363.out, NB363_352.out, (impl_gets.calls_q0)⟩)
            ·skip
             refine bs_ (N := 13) #[.int .i64 0, .int .i64 0] 36 ?_
             intro gb363 hg w96 hbox hb
             have HS1_ := (hb.cell (World.block_lt_of_cell? _ _ (hHeld.2))).trans (hHeld.2)
             replace HO_6 := Aside0.mk (Kd.R_below (uf1_ HO_6) hb)
             replace HO_7 := Aside0.mk (Kd.R_below (Kd.R_elderB (uf1_ HO_7) gb363 (Nat.le_of_eq hg.symm)) hb)
             have BK363 := Aside0.mk (hbox)
             have GW363 := Aside0.mk ((g8_ : w.heap.size ≤ gb363))
             have GE363 := Aside0.mk ((g8_ : w.heap.size ≤ gb363))
             replace HB := Aside0.mk (below_step (impl_gets.calls_q0) hb)
             have NB342_363 := Aside0.mk ((g21_ : gb342 ≠ gb363))
             have NB363_342 := Aside0.mk ((g22_ : gb363 ≠ gb342))
             replace BK342 := bb_ BK342 hb
             have NB352_363 := Aside0.mk ((g23_ : gb352 ≠ gb363))
             have NB363_352 := Aside0.mk ((g24_ : gb363 ≠ gb352))
             replace BK352 := bb_ BK352 hb
             clear hb hbox hg
             refine hK.out _ _ ⟨((cl_ HB hw358_0).trans rfl), HS1_⟩ (fun hHeld => ?_)
             clear hK K
             refine nm_ ?_
             refine one_ (i := 8) (N := some 59) (tl_ 15 4607) rfl rfl (one_of HT_.out (g0_)) (by decide) (fun K hK => ?_)
             refine goes_ Try.func82 (g0_) rfl #[.int .i64 (rd (rd_L1 l0_1 x35_2) x25_1), .int .i64 (rd t343 x35_2)] (by rfl) rfl rfl (g2_) ?_
             with_reducible refine (impl_lowest.calls kj21 (rd (rd_L1 l0_1 x35_2) x25_1) (rd t343 x35_2) t360 t361 t362 _ A31.out).mono ?_
             rintro e w97 ⟨rfl, hb⟩
             have HS1_ := (hb.cell (World.block_lt_of_cell? _ _ (hHeld.2))).trans (hHeld.2)
             refine ⟨_, rfl, ?_⟩
             replace HO_6 := Aside0.mk (Kd.R_below (uf1_ HO_6) hb)
             replace HO_7 := Aside0.mk (Kd.R_below (uf1_ HO_7) hb)
             replace BK342 := bb_ BK342 hb
             replace BK352 := bb_ BK352 hb
             replace BK363 := bb_ BK363 hb
             replace HB := Aside0.mk (below_step (impl_gets.calls_q0) hb)
             (try clear hb)
             (try clear hk hi)
             refine hK.out _ _ ⟨((cl_ HB hw358_0).trans rfl), HS1_⟩ (fun hHeld => ?_)
             clear hK K
             refine nm_ ?_
             refine pw_ 9 50 (tl_ 15 5119) rfl rfl ?_
             refine pw_ 10 60 (tl_ 15 6143) rfl rfl ?_
             refine pw_ 11 61 (tl_ 15 8191) rfl rfl ?_
             exact norm_ (g9_) (hCont (gb363) _ ⟨hHeld, (uf1_ HO_6), (uf1_ HO_7), (uf3_ BK342), (uf3_ BK352), (uf3_ BK363), GW363.out, GE363.out, NB342_363.out, NB363_342.out, NB352_363.out, NB363_352.out, (impl_gets.calls_q0)⟩)
           rintro gb363 w98 ⟨hS_, h0_, h1_, h2_, h3_, h4_, h5_, h6_, h7_, h8_, h9_, h10_, h11_⟩
           replace HO_6 : Aside0 (Kd.R (Kd.int .i64) 3 w98 w.heap.size (fun _ => True) (.slice (some ad359) t343.length co95) t343) := ⟨h0_⟩
           replace HO_7 : Aside0 (Kd.R k36 36 w98 w.heap.size (fun k_ => k_ ≠ gb352 ∧ k_ ≠ gb363) u7 x7_1) := ⟨h1_⟩
           replace BK342 : Aside0 (w98.heap[gb342]? = some (.cells #[.slice (some ad349) l0_0.length c0_0, .slice (some ad356) l0_1.length c0_1] 26 (0, 0))) := ⟨h2_⟩
           replace BK352 : Aside0 (w98.heap[gb352]? = some (.cells #[.int .i64 x353000_2, .int .i64 x353001_2] 36 (0, 0))) := ⟨h3_⟩
           have BK363 : Aside0 (w98.heap[gb363]? = some (.cells #[.int .i64 0, .int .i64 0] 36 (0, 0))) := ⟨h4_⟩
           have GW363 : Aside0 (w.heap.size ≤ gb363) := ⟨h5_⟩
           have GE363 : Aside0 (w.heap.size ≤ gb363) := ⟨h6_⟩
           have NB342_363 : Aside0 (gb342 ≠ gb363) := ⟨h7_⟩
           have NB363_342 : Aside0 (gb363 ≠ gb342) := ⟨h8_⟩
           have NB352_363 : Aside0 (gb352 ≠ gb363) := ⟨h9_⟩
           have NB363_352 : Aside0 (gb363 ≠ gb352) := ⟨h10_⟩
           replace HB : Aside0 (Below w.heap.size w w98) := ⟨h11_⟩
           clear h0_ h1_ h2_ h3_ h4_ h5_ h6_ h7_ h8_ h9_ h10_ h11_
           have hHeld : w98.cell? (ad358.add (x25_1).toNat) = some (.int .i64 (rd (rd_L1 l0_1 x35_2) x25_1)) ∧ w98.cell? (ad359.add (x35_2).toNat) = some (.int .i64 (rd t343 x35_2)) := hS_
           refine norm_ (a' := ?_) ?_ ?_
           rotate_left
           ·simp only [putAll, Act.put, List.setIfInBounds_toArray, List.set_cons_zero, List.set_cons_succ]
            rfl
           refine one_ (i := 13) (N := none) (tl_ 15 16383) rfl rfl (one_of HT_.out (g0_)) (by decide) (fun K hK => ?_)
           have hs99 : w98.cell? ⟨gb363, 0, none⟩ = some (.int .i64 0) := (blk_cell BK363.out 0).trans rfl
           have hfs99 := blk_frozen BK363.out 0
           have hns99_0 := NB342_363.out
           have hns99_1 := NB352_363.out
           have hms99_0 := NB363_342.out
           have hms99_1 := NB363_352.out
           have hs100 : w98.cell? ⟨gb363, 1, none⟩ = some (.int .i64 0) := (blk_cell BK363.out 1).trans rfl
           have hfs100 := blk_frozen BK363.out 1
           have hns100_0 := NB342_363.out
           have hns100_1 := NB352_363.out
           have hms100_0 := NB363_342.out
           have hms100_1 := NB363_352.out
           refine skip_ (w1 := ?_) (by rfl) rfl ?_ ?_
           rotate_left
           ·go_simp
            rfl
           refine hK.out _ _ ⟨((cell_far (p := ⟨gb363, _, none⟩) (by first | exact Nat.ne_of_lt (Nat.lt_of_lt_of_le (by have := World.block_lt_of_cell? _ _ hw358_0; first | rwa [add_block] at this | exact this) GW363.out) | (rw [add_block]; exact Nat.ne_of_lt (Nat.lt_of_lt_of_le (by have := World.block_lt_of_cell? _ _ hw358_0; first | rwa [add_block] at this | exact this) GW363.out)) | (show (Addr.add _ _).block ≠ _; rw [add_block]; exact Nat.ne_of_lt (Nat.lt_of_lt_of_le (by have := World.block_lt_of_cell? _ _ hw358_0; first | rwa [add_block] at this | exact this) GW363.out)) | (dsimp only; exact Nat.ne_of_lt (Nat.lt_of_lt_of_le (by have := World.block_lt_of_cell? _ _ hw358_0; first | rwa [add_block] at this | exact this) GW363.out))) _).trans (((cell_far (p := ⟨gb363, _, none⟩) (by first | exact Nat.ne_of_lt (Nat.lt_of_lt_of_le (by have := World.block_lt_of_cell? _ _ hw358_0; first | rwa [add_block] at this | exact this) GW363.out) | (rw [add_block]; exact Nat.ne_of_lt (Nat.lt_of_lt_of_le (by have := World.block_lt_of_cell? _ _ hw358_0; first | rwa [add_block] at this | exact this) GW363.out)) | (show (Addr.add _ _).block ≠ _; rw [add_block]; exact Nat.ne_of_lt (Nat.lt_of_lt_of_le (by have := World.block_lt_of_cell? _ _ hw358_0; first | rwa [add_block] at this | exact this) GW363.out)) | (dsimp only; exact Nat.ne_of_lt (Nat.lt_of_lt_of_le (by have := World.block_lt_of_cell? _ _ hw358_0; first | rwa [add_block] at this | exact this) GW363.out))) _).trans (hHeld.1)))), ((cell_far (p := ⟨gb363, _, none⟩) (g51_) _).trans (((cell_far (p := ⟨gb363, _, none⟩) (g51_) _).trans (hHeld.2))))⟩ (fun hHeld => ?_)
           clear hK K
           refine pw_ 14 14 (tl_ 15 32767) rfl rfl ?_
           refine done_ (done_of HT_.out (g0_)) ?_
           try go_wp2
           have n0_ : Aside0 (Kd.R (Kd.int .i64) 3 ((w98.setCell ⟨gb363, 0, none⟩ (.int .i64 t360)).setCell ⟨gb363, 1, none⟩ (.int .i64 t361)) w.heap.size (fun _ => True) (.slice (some ad359) t343.length co95) t343) := ⟨g95_⟩
           have n1_ : Aside0 (Kd.R k36 36 ((w98.setCell ⟨gb363, 0, none⟩ (.int .i64 t360)).setCell ⟨gb363, 1, none⟩ (.int .i64 t361)) w.heap.size (fun k_ => k_ ≠ gb352 ∧ k_ ≠ gb363) u7 x7_1) := ⟨g96_⟩
           have n2_ : Aside0 (((w98.setCell ⟨gb363, 0, none⟩ (.int .i64 t360)).setCell ⟨gb363, 1, none⟩ (.int .i64 t361)).heap[gb342]? = some (.cells #[.slice (some ad349) l0_0.length c0_0, .slice (some ad356) l0_1.length c0_1] 26 (0, 0))) := ⟨g97_⟩
           have n3_ : Aside0 (((w98.setCell ⟨gb363, 0, none⟩ (.int .i64 t360)).setCell ⟨gb363, 1, none⟩ (.int .i64 t361)).heap[gb352]? = some (.cells #[.int .i64 x353000_2, .int .i64 x353001_2] 36 (0, 0))) := ⟨g98_⟩
           have n4_ : Aside0 (((w98.setCell ⟨gb363, 0, none⟩ (.int .i64 t360)).setCell ⟨gb363, 1, none⟩ (.int .i64 t361)).heap[gb363]? = some (.cells #[.int .i64 t360, .int .i64 t361] 36 (0, 0))) := ⟨g99_⟩
           have n5_ : Aside0 (Below w.heap.size w ((w98.setCell ⟨gb363, 0, none⟩ (.int .i64 t360)).setCell ⟨gb363, 1, none⟩ (.int .i64 t361))) := ⟨impl_gets.calls_q0⟩
           (try clear HO_6)
           (try clear HO_7)
           (try clear BK342)
           (try clear BK352)
           (try clear BK363)
           (try clear HB)
           generalize ((w98.setCell ⟨gb363, 0, none⟩ (.int .i64 t360)).setCell ⟨gb363, 1, none⟩ (.int .i64 t361)) = w101 at n0_ n1_ n2_ n3_ n4_ n5_ ⊢
           have HO_6 := n0_
           have HO_7 := n1_
           have BK342 := n2_
           have BK352 := n3_
           have BK363 := n4_
           have HB := n5_
           clear n0_ n1_ n2_ n3_ n4_ n5_
           replace HO_6 := Aside0.mk (Kd.R_drew HO_6.out)
           replace HO_7 := Aside0.mk (Kd.R_drew HO_7.out)
           replace BK342 := Aside0.mk (blk_drew BK342.out)
           replace BK352 := Aside0.mk (blk_drew BK352.out)
           replace BK363 := Aside0.mk (blk_drew BK363.out)
           replace HB := Aside0.mk (below_drew1 HB.out)
           have p364 : 0 ≤ (x35_2 : Int) := of_decide_eq_true (g1_)
           have q364 : x35_2 < (l1.length : Int) := of_decide_eq_true (g1_)
           obtain ⟨ad364, e364, hx364_0, hx364_1⟩ := at_T36 HR1.out x35_2 p364 q364
           have hw364_1 := hx364_1
           have hw364_0 := hx364_0
           cases e364
           replace hx364_0 := cl_ HB hx364_0
           replace hx364_1 := cl_ HB hx364_1
           replace p364 := eq_true p364
           replace q364 := eq_true q364
           refine start_ (n := 12) (S := fun w' => w'.cell? ⟨gb363, 0, none⟩ = some (.int .i64 t360) ∧ w'.cell? ⟨gb363, 1, none⟩ = some (.int .i64 t361) ∧ w'.cell? (ad364.add ((x35_2).toNat * 2)) = some (.int .i64 ((rd_T36 l1 x35_2).f0)) ∧ w'.cell? ⟨(ad364.add ((x35_2).toNat * 2)).block, (ad364.add ((x35_2).toNat * 2)).off + 1, none⟩ = some (.int .i64 ((rd_T36 l1 x35_2).f1))) (ds := []) (tl_ 12 0) (g0_) rfl (g0_) ⟨(blk_cell BK363.out 0).trans rfl, (blk_cell BK363.out 1).trans rfl, ((cl_ HB hw364_0).trans rfl), ((cl_ HB hw364_1).trans rfl)⟩ (fun hHeld => ?_); refine with_tabW impl_gets.tab12 impl_gets.bits12 (fun HT_ HW_ => ?_)
           generalize w101.drew = w102 at HO_6 HO_7 BK342 BK352 BK363 HB hx364_0 hx364_1 hHeld ⊢
           refine pw_ 0 63 (tl_ 12 1) rfl rfl ?_
           refine pw_ 1 64 (tl_ 12 3) rfl rfl ?_
           refine pw_ 2 65 (tl_ 12 7) rfl rfl ?_
           refine tk0_ 3 66 (tl_ 12 15) rfl rfl hHeld ?_
           refine tk0_ 4 67 (tl_ 12 31) rfl rfl hHeld ?_
           refine join_ (σ := Nat) 2 (tl_ 12 1023) (fun s_ => [(68, .tuple #[.agg #[.int .i64 t365, .int .i64 t366], .bool false]), (15, .pointer (some ⟨s_, 0, none⟩)), (62, .tuple #[.agg #[.int .i64 t365, .int .i64 t366], .bool false]), (69, .agg #[.int .i64 t365, .int .i64 t366]), (70, .bool false)]) (fun s_ w' => (w'.cell? ⟨gb363, 0, none⟩ = some (.int .i64 t360) ∧ w'.cell? ⟨gb363, 1, none⟩ = some (.int .i64 t361) ∧ w'.cell? (ad364.add ((x35_2).toNat * 2)) = some (.int .i64 ((rd_T36 l1 x35_2).f0)) ∧ w'.cell? ⟨(ad364.add ((x35_2).toNat * 2)).block, (ad364.add ((x35_2).toNat * 2)).off + 1, none⟩ = some (.int .i64 ((rd_T36 l1 x35_2).f1))) ∧ (Kd.R (Kd.int .i64) 3 w' w.heap.size (fun _ => True) (.slice (some ad359) t343.length co95) t343) ∧ (Kd.R k36 36 w' w.heap.size (fun k_ => k_ ≠ gb352 ∧ k_ ≠ gb363 ∧ k_ ≠ s_) u7 x7_1) ∧ (w'.heap[gb342]? = some (.cells #[.slice (some ad349) l0_0.length c0_0, .slice (some ad356) l0_1.length c0_1] 26 (0, 0))) ∧ (w'.heap[gb352]? = some (.cells #[.int .i64 x353000_2, .int .i64 x353001_2] 36 (0, 0))) ∧ (w'.heap[gb363]? = some (.cells #[.int .i64 t360, .int .i64 t361] 36 (0, 0))) ∧ (w'.heap[s_]? = some (.cells #[.int .i64 0, .int .i64 0] 36 (0, 0))) ∧ (w.heap.size ≤ s_) ∧ (w.heap.size ≤ s_) ∧ (gb342 ≠ s_) ∧ (s_ ≠ gb342) ∧ (gb352 ≠ s_) ∧ (s_ ≠ gb352) ∧ (gb363 ≠ s_) ∧ (s_ ≠ gb363) ∧ (Below w.heap.size w w')) ?_ ?_
           rotate_left
           ·intro hCont
            refine two_ (i := 5) (j := 9) (Ni := some 68) (Nj := some 15) (tl_ 12 63) (tl_ 12 543) rfl rfl rfl rfl (two_of HT_.out (g0_)) (by decide) (by decide) (fun K hK => ?_) (fun K hK => ?_)
            ·skip
             refine goes_ Try.func83 (g0_) rfl #[.agg #[.int .i64 ((rd_T36 l1 x35_2).f0), .int .i64 ((rd_T36 l1 x35_2).f1)], .agg #[.int .i64 t360, .int .i64 t361]] (by rfl) rfl rfl (g2_) ?_
             with_reducible refine (impl_times.calls kj21 ((rd_T36 l1 x35_2).f0) ((rd_T36 l1 x35_2).f1) t360 t361 t365 t366 false _ A33.out).mono ?_
             rintro e w103 ⟨rfl, hb⟩
             refine ⟨_, rfl, ?_⟩
             replace HO_6 := Aside0.mk (Kd.R_below (uf1_ HO_6) hb)
             replace HO_7 := Aside0.mk (Kd.R_below (uf1_ HO_7) hb)
             replace BK342 := bb_ BK342 hb
             replace BK352 := bb_ BK352 hb
             replace BK363 := bb_ BK363 hb
             replace HB := Aside0.mk (below_step (impl_gets.calls_q0) hb)
             (try clear hb)
             (try clear hk hi)
             refine hK.out _ _ ⟨(blk_cell BK363.out 0).trans rfl, (blk_cell BK363.out 1).trans rfl, ((cl_ HB hw364_0).trans rfl), ((cl_ HB hw364_1).trans rfl)⟩ (fun hHeld => ?_)
             clear hK K
             refine nm_ ?_
             refine pw_ 6 62 (tl_ 12 127) rfl rfl ?_
             refine pw_ 7 69 (tl_ 12 255) rfl rfl ?_
             refine pw_ 8 70 (tl_ 12 511) rfl rfl ?_
             refine one_ (i := 9) (N := some 15) (tl_ 12 1023) rfl rfl (one_of HT_.out (g0_)) (by decide) (fun K hK => ?_)
             refine bs_ (N := 15) #[.int .i64 0, .int .i64 0] 36 ?_
             intro gb368 hg w104 hbox hb
             replace HO_6 := Aside0.mk (Kd.R_below (uf1_ HO_6) hb)
             replace HO_7 := Aside0.mk (Kd.R_below (Kd.R_elderB (uf1_ HO_7) gb368 (Nat.le_of_eq hg.symm)) hb)
             have BK368 := Aside0.mk (hbox)
             have GW368 := Aside0.mk ((g8_ : w.heap.size ≤ gb368))
             have GE368 := Aside0.mk ((g8_ : w.heap.size ≤ gb368))
             replace HB := Aside0.mk (below_step (impl_gets.calls_q0) hb)
             have NB342_368 := Aside0.mk ((g21_ : gb342 ≠ gb368))
             have NB368_342 := Aside0.mk ((g22_ : gb368 ≠ gb342))
             replace BK342 := bb_ BK342 hb
             have NB352_368 := Aside0.mk ((g23_ : gb352 ≠ gb368))
             have NB368_352 := Aside0.mk ((g24_ : gb368 ≠ gb352))
             replace BK352 := bb_ BK352 hb
             have NB363_368 := Aside0.mk ((g29_ : gb363 ≠ gb368))
             have NB368_363 := Aside0.mk ((g30_ : gb368 ≠ gb363))
             replace BK363 := bb_ BK363 hb
             clear hb hbox hg
             refine hK.out _ _ ⟨(blk_cell BK363.out 0).trans rfl, (blk_cell BK363.out 1).trans rfl, ((cl_ HB hw364_0).trans rfl), ((cl_ HB hw364_1).trans rfl)⟩ (fun hHeld => ?_)
             clear hK K
             refine nm_ ?_
             exact norm_ (g9_) (hCont (gb368) _ ⟨hHeld, (uf1_ HO_6), (g52_), (uf3_ BK342), (uf3_ BK352), (uf3_ BK363), (uf3_ BK368), GW368.out, GE368.out, NB342_368.out, NB368_342.out, NB352_368.out, NB368_352.out, NB363_368.out, NB368_363.out, (impl_gets.calls_q0)⟩)
            ·skip
             refine bs_ (N := 15) #[.int .i64 0, .int .i64 0] 36 ?_
             intro gb368 hg w103 hbox hb
             replace HO_6 := Aside0.mk (Kd.R_below (uf1_ HO_6) hb)
             replace HO_7 := Aside0.mk (Kd.R_below (Kd.R_elderB (uf1_ HO_7) gb368 (Nat.le_of_eq hg.symm)) hb)
             have BK368 := Aside0.mk (hbox)
             have GW368 := Aside0.mk ((g8_ : w.heap.size ≤ gb368))
             have GE368 := Aside0.mk ((g8_ : w.heap.size ≤ gb368))
             replace HB := Aside0.mk (below_step (impl_gets.calls_q0) hb)
             have NB342_368 := Aside0.mk ((g21_ : gb342 ≠ gb368))
             have NB368_342 := Aside0.mk ((g22_ : gb368 ≠ gb342))
             replace BK342 := bb_ BK342 hb
             have NB352_368 := Aside0.mk ((g23_ : gb352 ≠ gb368))
             have NB368_352 := Aside0.mk ((g24_ : gb368 ≠ gb352))
             replace BK352 := bb_ BK352 hb
             have NB363_368 := Aside0.mk ((g29_ : gb363 ≠ gb368))
             have NB368_363 := Aside0.mk ((g30_ : gb368 ≠ gb363))
             replace BK363 := bb_ BK363 hb
             clear hb hbox hg
             refine hK.out _ _ ⟨(blk_cell BK363.out 0).trans rfl, (blk_cell BK363.out 1).trans rfl, ((cl_ HB hw364_0).trans rfl), ((cl_ HB hw364_1).trans rfl)⟩ (fun hHeld => ?_)
             clear hK K
             refine nm_ ?_
             refine one_ (i := 5) (N := some 68) (tl_ 12 575) rfl rfl (one_of HT_.out (g0_)) (by decide) (fun K hK => ?_)
             refine goes_ Try.func83 (g0_) rfl #[.agg #[.int .i64 ((rd_T36 l1 x35_2).f0), .int .i64 ((rd_T36 l1 x35_2).f1)], .agg #[.int .i64 t360, .int .i64 t361]] (by rfl) rfl rfl (g2_) ?_
             with_reducible refine (impl_times.calls kj21 ((rd_T36 l1 x35_2).f0) ((rd_T36 l1 x35_2).f1) t360 t361 t365 t366 false _ A33.out).mono ?_
             rintro e w104 ⟨rfl, hb⟩
             refine ⟨_, rfl, ?_⟩
             replace HO_6 := Aside0.mk (Kd.R_below (uf1_ HO_6) hb)
             replace HO_7 := Aside0.mk (Kd.R_below (uf1_ HO_7) hb)
             replace BK342 := bb_ BK342 hb
             replace BK352 := bb_ BK352 hb
             replace BK363 := bb_ BK363 hb
             replace BK368 := bb_ BK368 hb
             replace HB := Aside0.mk (below_step (impl_gets.calls_q0) hb)
             (try clear hb)
             (try clear hk hi)
             refine hK.out _ _ ⟨(blk_cell BK363.out 0).trans rfl, (blk_cell BK363.out 1).trans rfl, ((cl_ HB hw364_0).trans rfl), ((cl_ HB hw364_1).trans rfl)⟩ (fun hHeld => ?_)
             clear hK K
             refine nm_ ?_
             refine pw_ 6 62 (tl_ 12 639) rfl rfl ?_
             refine pw_ 7 69 (tl_ 12 767) rfl rfl ?_
             refine pw_ 8 70 (tl_ 12 1023) rfl rfl ?_
             exact norm_ (g9_) (hCont (gb368) _ ⟨hHeld, (uf1_ HO_6), (g52_), (uf3_ BK342), (uf3_ BK352), (uf3_ BK363), (uf3_ BK368), GW368.out, GE368.out, NB342_368.out, NB368_342.out, NB352_368.out, NB368_352.out, NB363_368.out, NB368_363.out, (impl_gets.calls_q0)⟩)
           rintro gb368 w105 ⟨hS_, h0_, h1_, h2_, h3_, h4_, h5_, h6_, h7_, h8_, h9_, h10_, h11_, h12_, h13_, h14_⟩
           replace HO_6 : Aside0 (Kd.R (Kd.int .i64) 3 w105 w.heap.size (fun _ => True) (.slice (some ad359) t343.length co95) t343) := ⟨h0_⟩
           replace HO_7 : Aside0 (Kd.R k36 36 w105 w.heap.size (fun k_ => k_ ≠ gb352 ∧ k_ ≠ gb363 ∧ k_ ≠ gb368) u7 x7_1) := ⟨h1_⟩
           replace BK342 : Aside0 (w105.heap[gb342]? = some (.cells #[.slice (some ad349) l0_0.length c0_0, .slice (some ad356) l0_1.length c0_1] 26 (0, 0))) := ⟨h2_⟩
           replace BK352 : Aside0 (w105.heap[gb352]? = some (.cells #[.int .i64 x353000_2, .int .i64 x353001_2] 36 (0, 0))) := ⟨h3_⟩
           replace BK363 : Aside0 (w105.heap[gb363]? = some (.cells #[.int .i64 t360, .int .i64 t361] 36 (0, 0))) := ⟨h4_⟩
           have BK368 : Aside0 (w105.heap[gb368]? = some (.cells #[.int .i64 0, .int .i64 0] 36 (0, 0))) := ⟨h5_⟩
           have GW368 : Aside0 (w.heap.size ≤ gb368) := ⟨h6_⟩
           have GE368 : Aside0 (w.heap.size ≤ gb368) := ⟨h7_⟩
           have NB342_368 : Aside0 (gb342 ≠ gb368) := ⟨h8_⟩
           have NB368_342 : Aside0 (gb368 ≠ gb342) := ⟨h9_⟩
           have NB352_368 : Aside0 (gb352 ≠ gb368) := ⟨h10_⟩
           have NB368_352 : Aside0 (gb368 ≠ gb352) := ⟨h11_⟩
           have NB363_368 : Aside0 (gb363 ≠ gb368) := ⟨h12_⟩
           have NB368_363 : Aside0 (gb368 ≠ gb363) := ⟨h13_⟩
           replace HB : Aside0 (Below w.heap.size w w105) := ⟨h14_⟩
           clear h0_ h1_ h2_ h3_ h4_ h5_ h6_ h7_ h8_ h9_ h10_ h11_ h12_ h13_ h14_
           have hHeld : w105.cell? ⟨gb363, 0, none⟩ = some (.int .i64 t360) ∧ w105.cell? ⟨gb363, 1, none⟩ = some (.int .i64 t361) ∧ w105.cell? (ad364.add ((x35_2).toNat * 2)) = some (.int .i64 ((rd_T36 l1 x35_2).f0)) ∧ w105.cell? ⟨(ad364.add ((x35_2).toNat * 2)).block, (ad364.add ((x35_2).toNat * 2)).off + 1, none⟩ = some (.int .i64 ((rd_T36 l1 x35_2).f1)) := hS_
           refine norm_ (a' := ?_) ?_ ?_
           rotate_left
           ·simp only [putAll, Act.put, List.setIfInBounds_toArray, List.set_cons_zero, List.set_cons_succ]
            rfl
           refine one_ (i := 10) (N := none) (tl_ 12 2047) rfl rfl (one_of HT_.out (g0_)) (by decide) (fun K hK => ?_)
           have hs106 : w105.cell? ⟨gb368, 0, none⟩ = some (.int .i64 0) := (blk_cell BK368.out 0).trans rfl
           have hfs106 := blk_frozen BK368.out 0
           have hns106_0 := NB342_368.out
           have hns106_1 := NB352_368.out
           have hns106_2 := NB363_368.out
           have hms106_0 := NB368_342.out
           have hms106_1 := NB368_352.out
           have hms106_2 := NB368_363.out
           have hs107 : w105.cell? ⟨gb368, 1, none⟩ = some (.int .i64 0) := (blk_cell BK368.out 1).trans rfl
           have hfs107 := blk_frozen BK368.out 1
           have hns107_0 := NB342_368.out
           have hns107_1 := NB352_368.out
           have hns107_2 := NB363_368.out
           have hms107_0 := NB368_342.out
           have hms107_1 := NB368_352.out
           have hms107_2 := NB368_363.out
           refine skip_ (w1 := ?_) (by rfl) rfl ?_ ?_
           rotate_left
           ·go_simp
            rfl
           refine hK.out _ _ ⟨(cf_ NB363_368 ((cf_ NB363_368 (hHeld.1)))), (cf_ NB363_368 ((cf_ NB363_368 (hHeld.2.1)))), ((cell_far (p := ⟨gb368, _, none⟩) (by first | exact Nat.ne_of_lt (Nat.lt_of_lt_of_le (by have := World.block_lt_of_cell? _ _ hw364_0; first | rwa [add_block] at this | exact this) GW368.out) | (rw [add_block]; exact Nat.ne_of_lt (Nat.lt_of_lt_of_le (by have := World.block_lt_of_cell? _ _ hw364_0; first | rwa [add_block] at this | exact this) GW368.out)) | (show (Addr.add _ _).block ≠ _; rw [add_block]; exact Nat.ne_of_lt (Nat.lt_of_lt_of_le (by have := World.block_lt_of_cell? _ _ hw364_0; first | rwa [add_block] at this | exact this) GW368.out)) | (dsimp only; exact Nat.ne_of_lt (Nat.lt_of_lt_of_le (by have := World.block_lt_of_cell? _ _ hw364_0; first | rwa [add_block] at this | exact this) GW368.out))) _).trans (((cell_far (p := ⟨gb368, _, none⟩) (by first | exact Nat.ne_of_lt (Nat.lt_of_lt_of_le (by have := World.block_lt_of_cell? _ _ hw364_0; first | rwa [add_block] at this | exact this) GW368.out) | (rw [add_block]; exact Nat.ne_of_lt (Nat.lt_of_lt_of_le (by have := World.block_lt_of_cell? _ _ hw364_0; first | rwa [add_block] at this | exact this) GW368.out)) | (show (Addr.add _ _).block ≠ _; rw [add_block]; exact Nat.ne_of_lt (Nat.lt_of_lt_of_le (by have := World.block_lt_of_cell? _ _ hw364_0; first | rwa [add_block] at this | exact this) GW368.out)) | (dsimp only; exact Nat.ne_of_lt (Nat.lt_of_lt_of_le (by have := World.block_lt_of_cell? _ _ hw364_0; first | rwa [add_block] at this | exact this) GW368.out))) _).trans (hHeld.2.2.1)))), ((cell_far (p := ⟨gb368, _, none⟩) (by first | exact Nat.ne_of_lt (Nat.lt_of_lt_of_le (by have := World.block_lt_of_cell? _ _ hw364_1; first | rwa [add_block] at this | exact this) GW368.out) | (rw [add_block]; exact Nat.ne_of_lt (Nat.lt_of_lt_of_le (by have := World.block_lt_of_cell? _ _ hw364_1; first | rwa [add_block] at this | exact this) GW368.out)) | (show (Addr.add _ _).block ≠ _; rw [add_block]; exact Nat.ne_of_lt (Nat.lt_of_lt_of_le (by have := World.block_lt_of_cell? _ _ hw364_1; first | rwa [add_block] at this | exact this) GW368.out)) | (dsimp only; exact Nat.ne_of_lt (Nat.lt_of_lt_of_le (by have := World.block_lt_of_cell? _ _ hw364_1; first | rwa [add_block] at this | exact this) GW368.out))) _).trans (((cell_far (p := ⟨gb368, _, none⟩) (by first | exact Nat.ne_of_lt (Nat.lt_of_lt_of_le (by have := World.block_lt_of_cell? _ _ hw364_1; first | rwa [add_block] at this | exact this) GW368.out) | (rw [add_block]; exact Nat.ne_of_lt (Nat.lt_of_lt_of_le (by have := World.block_lt_of_cell? _ _ hw364_1; first | rwa [add_block] at this | exact this) GW368.out)) | (show (Addr.add _ _).block ≠ _; rw [add_block]; exact Nat.ne_of_lt (Nat.lt_of_lt_of_le (by have := World.block_lt_of_cell? _ _ hw364_1; first | rwa [add_block] at this | exact this) GW368.out)) | (dsimp only; exact Nat.ne_of_lt (Nat.lt_of_lt_of_le (by have := World.block_lt_of_cell? _ _ hw364_1; first | rwa [add_block] at this | exact this) GW368.out))) _).trans (hHeld.2.2.2))))⟩ (fun hHeld => ?_)
           clear hK K
           refine pw_ 11 16 (tl_ 12 4095) rfl rfl ?_
           refine done_ (done_of HT_.out (g0_)) ?_
           have hnb108 := NB352_342.out
           have hnc108 := NB342_352.out
           have hnb109 := NB352_363.out
           have hnc109 := NB363_352.out
           have hnb110 := NB352_368.out
           have hnc110 := NB368_352.out
           obtain ⟨hcz111_0, hcz111_1, hfz111_0, hfz111_1⟩ := blk2_ BK352
           have hnb112 := NB368_342.out
           have hnc112 := NB342_368.out
           have hnb113 := NB368_363.out
           have hnc113 := NB363_368.out
           obtain ⟨hcz114_0, hcz114_1, hfz114_0, hfz114_1⟩ := blk2_ BK368
           try go_wp2_with (first | ((with_reducible refine gate_callee (f := 70) rfl ?_); refine goesL_ (some 74) rfl rfl Try.func70 k_ rfl #[.agg #[.int .i64 x353000_2, .int .i64 x353001_2], .agg #[.int .i64 t365, .int .i64 t366]] rfl (g2_) ?_; (with_reducible refine (impl_plus.calls kj21 x353000_2 x353001_2 t365 t366 t369 t370 t371 _ A34.out).mono ?_); rintro e w115 ⟨rfl, hb⟩; refine ⟨_, rfl, ?_⟩; replace HO_6 := Aside0.mk (Kd.R_below (g100_) hb); replace HO_7 := Aside0.mk (Kd.R_below (g101_) hb); replace BK342 := Aside0.mk (blk_below (g := gb342) (o := .cells #[.slice (some ad349) l0_0.length c0_0, .slice (some ad356) l0_1.length c0_1] 26 (0, 0)) (g102_) hb); replace BK352 := Aside0.mk (blk_below (g := gb352) (o := .cells #[.int .i64 x353000_2, .int .i64 x353001_2] 36 (0, 0)) (g103_) hb); replace BK363 := Aside0.mk (blk_below (g := gb363) (o := .cells #[.int .i64 t360, .int .i64 t361] 36 (0, 0)) (g104_) hb); replace BK368 := Aside0.mk (blk_below (g := gb368) (o := .cells #[.int .i64 t365, .int .i64 t366] 36 (0, 0)) (g105_) hb); replace HB := Aside0.mk (below_step (impl_gets.calls_q0) hb); (try clear hb); (try clear hk hi)) | ((with_reducible refine gate_dst (N := 17) rfl ?_); refine bx_ (N := 17) #[.int .i64 0, .int .i64 0] 36 ?_; intro gb372 hg w116 hbox hb; replace HO_6 := Aside0.mk (Kd.R_below (uf1_ HO_6) hb); replace HO_7 := Aside0.mk (Kd.R_below (Kd.R_elderB (uf1_ HO_7) gb372 (Nat.le_of_eq hg.symm)) hb); have BK372 := Aside0.mk (hbox); have GW372 := Aside0.mk ((g8_ : w.heap.size ≤ gb372)); have GE372 := Aside0.mk ((g8_ : w.heap.size ≤ gb372)); replace HB := Aside0.mk (below_step (impl_gets.calls_q0) hb); have NB342_372 := Aside0.mk ((g21_ : gb342 ≠ gb372)); have NB372_342 := Aside0.mk ((g22_ : gb372 ≠ gb342)); replace BK342 := bb_ BK342 hb; have NB352_372 := Aside0.mk ((g23_ : gb352 ≠ gb372)); have NB372_352 := Aside0.mk ((g24_ : gb372 ≠ gb352)); replace BK352 := bb_ BK352 hb; have NB363_372 := Aside0.mk ((g29_ : gb363 ≠ gb372)); have NB372_363 := Aside0.mk ((g30_ : gb372 ≠ gb363)); replace BK363 := bb_ BK363 hb; have NB368_372 := Aside0.mk ((g106_ : gb368 ≠ gb372)); have NB372_368 := Aside0.mk ((g107_ : gb372 ≠ gb368)); replace BK368 := bb_ BK368 hb; clear hb hbox hg; have hnb117 := NB372_342.out; have hnc117 := NB342_372.out; have hnb118 := NB372_352.out; have hnc118 := NB352_372.out; have hnb119 := NB372_363.out; have hnc119 := NB363_372.out; have hnb120 := NB372_368.out; have hnc120 := NB368_372.out; obtain ⟨hcz121_0, hcz121_1, hfz121_0, hfz121_1⟩ := blk2_ BK372))
           go_ret2
           exact ⟨_, g4_, g36_, impl_gets.calls_q0⟩
      ·rw [if_neg c19] at H
       have c19b0 := decide_eq_false c19
       clear c19
       obtain ⟨c122, H⟩ := pos_ H
       have LMc122 := Aside0.mk c122
       clear c122
       obtain ⟨y353, hy353⟩ : ∃ y_ : List (S36), y_ = (x7_1 ++ [(⟨x353000_2, x353001_2⟩ : S36)]) := ⟨_, rfl⟩
       replace H : (impl_gets.l0 k2 l1 t343 y353 l0_0 (l0_0.length : Int) (wrap64 (x25_1 + 1)) l0_0 l0_1) = some (r1, r2) := by first | (rw [hy353]; with_reducible exact H) | (have H2_ := (Option.bind_some _ _).symm.trans H; rw [hy353]; with_reducible exact H2_) | (have H2_ := (Option.bind_some _ _).symm.trans H; with_reducible exact H2_) | with_reducible exact H | (rw [hy353]; exact H) | exact H
       have Ny353 := Aside0.mk hy353
       clear hy353
       have H' := Aside0.mk H
       clear H
       have hnb123 := NB352_342.out
       have hnc123 := NB342_352.out
       obtain ⟨hcz124_0, hcz124_1, hfz124_0, hfz124_1⟩ := blk2_ BK352
       go_wp2_with (first | ((with_reducible refine gate_builtin (b := .append) (xs := #[.tmp 85, .tmp 87]) rfl ?_); at_builtin; refine Kd.R_append k36 (w0 := w) w.heap.size rfl (.tmp 85) (.tmp 87) 27 36 (.agg #[(.int .i64 0), (.int .i64 0)]) 16 rfl Try.underlying27 info36 rfl (by decide) (by omega) u7 x7_1 (⟨x353000_2, x353001_2⟩ : S36) [.int .i64 x353000_2, .int .i64 x353001_2] (fun k_ => k_ ≠ gb352) (fun _ => False) rfl rfl ?aP (fun _ hk => hk.elim) ?aF ?aO ?aB ?aS ?aL ?_; (case aP => exact k36_mkM _ _ _ (⟨x353000_2, x353001_2⟩ : S36)); (case aB => exact (impl_gets.calls_q0)); (case aF => exact (fun k_ hk => Kd.freshB (g := gb352) (o := .cells #[.int .i64 x353000_2, .int .i64 x353001_2] 36 (0, 0)) (uf3_ BK352) k_ hk)); (case aO => exact (uf1_ HO_7)); (case aS => exact (below_size (impl_gets.calls_q0))); (case aL => have := LMc122.out; omega); intro v354 w125 ho hb hg hat; rw [← Ny353.out] at ho; replace HO_6 := Aside0.mk (Kd.R_over' (uf1_ HO_6) (Kd.R_typed (uf1_ HO_7)) (by decide) hg); replace BK342 := Aside0.mk (blk_grown (g := gb342) (o := .cells #[.slice (some ad349) l0_0.length c0_0, .slice A0_1 l0_1.length c0_1] 26 (0, 0)) (uf3_ BK342) hg (Kd.R_ne HO_7.out BK342.out (by decide))); replace BK352 := Aside0.mk (blk_grown (g := gb352) (o := .cells #[.int .i64 x353000_2, .int .i64 x353001_2] 36 (0, 0)) (uf3_ BK352) hg (Kd.R_away HO_7.out (fun _ hk => hk))); replace HB := Aside0.mk (hb); have HO355 := Aside0.mk (ho); clear HO_7; clear ho hb hg hat))
       go_roundg k2
       case measure => have := HK1.out; have := HK2.out; omega
       case rel => exact ⟨(y353), (wrap64 (x25_1 + 1)), (g3_), H', ⟨g46_⟩, ⟨uf1_ HO_6⟩, ⟨by (with_reducible repeat (first | apply Kd.R_alloc | apply Kd.R_drewN | apply Kd.R_drew)); exact Kd.R_mono HO355.out (fun _ hk => trivial)⟩, ⟨uf3_ BK342⟩, ⟨impl_gets.calls_q0⟩⟩
   ·rw [if_neg c10] at H
    have c10b0 := decide_eq_false c10
    clear c10
    simp only [Option.some.injEq, Prod.mk.injEq] at H
    obtain ⟨rfl, rfl⟩ := H
    go_wp2
    go_ret2
    exact ⟨_, g4_, uf1_ HO_7, impl_gets.calls_q0⟩
def cmp_isNaN_int.f (a0 : Int) : Option (Bool) := some (a0 != a0)
set_option maxHeartbeats 8000000 in
set_option maxRecDepth 100000 in
theorem cmp_isNaN_int.calls (a0 : Int) (r : Bool) (w : World) (h : cmp_isNaN_int.f a0 = some r) :
  Calls Try.prog 96 #[.int .i64 a0] w fun e w' => e = .returned (.bool r) ∧ Drawn0 w w' := by
 have H : (some (a0 != a0)) = some r := h
 clear h
 obtain rfl := Option.some.inj H
 go_enter Try.func96, Try.ntmps96
 go_wp2
 go_ret
 exact ⟨g3_, g6_⟩
def cmp_Compare_int.f (a0 : Int) (a1 : Int) : Option (Int) := (cmp_isNaN_int.f a0).bind fun t373 => ((cmp_isNaN_int.f a1).bind fun t374 => (if t373 = true then (if t374 = true then (some 0) else (some (-1))) else (if t374 = true then (some 1) else (if a0 < a1 then (some (-1)) else (if a0 > a1 then (some 1) else (some 0))))))
set_option maxHeartbeats 8000000 in
set_option maxRecDepth 100000 in
theorem cmp_Compare_int.calls (a0 : Int) (a1 : Int) (r : Int) (w : World) (h : cmp_Compare_int.f a0 a1 = some r) :
  Calls Try.prog 92 #[.int .i64 a0, .int .i64 a1] w fun e w' => e = .returned (.int .i64 r) ∧ Drawn0 w w' := by
 have H : ((cmp_isNaN_int.f a0).bind fun t373 => ((cmp_isNaN_int.f a1).bind fun t374 => (if t373 = true then (if t374 = true then (some 0) else (some (-1))) else (if t374 = true then (some 1) else (if a0 < a1 then (some (-1)) else (if a0 > a1 then (some 1) else (some 0))))))) = some r := h
 clear h
 obtain ⟨t373, A3, H⟩ := bind_ H
 obtain ⟨t374, A4, H⟩ := bind_ H
 by_cases c5 : t373 = true
 ·subst c5
  replace H := ifp_ H
  by_cases c6 : t374 = true
  ·subst c6
   replace H := ifp_ H
   obtain rfl := Option.some.inj H
   go_enter Try.func92, Try.ntmps92
   go_wp2_with (first | ((with_reducible refine gate_callee (f := 96) rfl ?_); refine goesL_ (some 8) rfl rfl Try.func96 k_ rfl #[.int .i64 a0] rfl (g2_) ?_; (with_reducible refine (cmp_isNaN_int.calls a0 true _ A3.out).mono ?_); rintro e w' ⟨rfl, ⟨nd, rfl⟩⟩; refine ⟨_, rfl, ?_⟩) | ((with_reducible refine gate_callee (f := 96) rfl ?_); refine goesL_ (some 10) rfl rfl Try.func96 k_ rfl #[.int .i64 a1] rfl (g2_) ?_; (with_reducible refine (cmp_isNaN_int.calls a1 true _ A4.out).mono ?_); rintro e w' ⟨rfl, ⟨nd, rfl⟩⟩; refine ⟨_, rfl, ?_⟩))
   go_ret
   exact ⟨g3_, g6_⟩
  ·replace c6 := Bool.eq_false_iff.mpr c6
   subst c6
   replace H := ifn_ H
   obtain rfl := Option.some.inj H
   go_enter Try.func92, Try.ntmps92
   go_wp2_with (first | ((with_reducible refine gate_callee (f := 96) rfl ?_); refine goesL_ (some 8) rfl rfl Try.func96 k_ rfl #[.int .i64 a0] rfl (g2_) ?_; (with_reducible refine (cmp_isNaN_int.calls a0 true _ A3.out).mono ?_); rintro e w' ⟨rfl, ⟨nd, rfl⟩⟩; refine ⟨_, rfl, ?_⟩) | ((with_reducible refine gate_callee (f := 96) rfl ?_); refine goesL_ (some 10) rfl rfl Try.func96 k_ rfl #[.int .i64 a1] rfl (g2_) ?_; (with_reducible refine (cmp_isNaN_int.calls a1 false _ A4.out).mono ?_); rintro e w' ⟨rfl, ⟨nd, rfl⟩⟩; refine ⟨_, rfl, ?_⟩))
   go_ret
   exact ⟨g3_, g6_⟩
 ·replace c5 := Bool.eq_false_iff.mpr c5
  subst c5
  replace H := ifn_ H
  by_cases c7 : t374 = true
  ·subst c7
   replace H := ifp_ H
   obtain rfl := Option.some.inj H
   go_enter Try.func92, Try.ntmps92
   go_wp2_with (first | ((with_reducible refine gate_callee (f := 96) rfl ?_); refine goesL_ (some 8) rfl rfl Try.func96 k_ rfl #[.int .i64 a0] rfl (g2_) ?_; (with_reducible refine (cmp_isNaN_int.calls a0 false _ A3.out).mono ?_); rintro e w' ⟨rfl, ⟨nd, rfl⟩⟩; refine ⟨_, rfl, ?_⟩) | ((with_reducible refine gate_callee (f := 96) rfl ?_); refine goesL_ (some 10) rfl rfl Try.func96 k_ rfl #[.int .i64 a1] rfl (g2_) ?_; (with_reducible refine (cmp_isNaN_int.calls a1 true _ A4.out).mono ?_); rintro e w' ⟨rfl, ⟨nd, rfl⟩⟩; refine ⟨_, rfl, ?_⟩))
   go_ret
   exact ⟨g3_, g6_⟩
  ·replace c7 := Bool.eq_false_iff.mpr c7
   subst c7
   replace H := ifn_ H
   by_cases c8 : a0 < a1
   ·rw [if_pos c8] at H
    have c8b0 := decide_eq_true c8
    clear c8
    obtain rfl := Option.some.inj H
    go_enter Try.func92, Try.ntmps92
    go_wp2_with (first | ((with_reducible refine gate_callee (f := 96) rfl ?_); refine goesL_ (some 8) rfl rfl Try.func96 k_ rfl #[.int .i64 a0] rfl (g2_) ?_; (with_reducible refine (cmp_isNaN_int.calls a0 false _ A3.out).mono ?_); rintro e w' ⟨rfl, ⟨nd, rfl⟩⟩; refine ⟨_, rfl, ?_⟩) | ((with_reducible refine gate_callee (f := 96) rfl ?_); refine goesL_ (some 10) rfl rfl Try.func96 k_ rfl #[.int .i64 a1] rfl (g2_) ?_; (with_reducible refine (cmp_isNaN_int.calls a1 false _ A4.out).mono ?_); rintro e w' ⟨rfl, ⟨nd, rfl⟩⟩; refine ⟨_, rfl, ?_⟩))
    go_ret
    exact ⟨g3_, g6_⟩
   ·rw [if_neg c8] at H
    have c8b0 := decide_eq_false c8
    clear c8
    by_cases c9 : a0 > a1
    ·rw [if_pos c9] at H
     have c9b0 := decide_eq_true c9
     clear c9
     obtain rfl := Option.some.inj H
     go_enter Try.func92, Try.ntmps92
     go_wp2_with (first | ((with_reducible refine gate_callee (f := 96) rfl ?_); refine goesL_ (some 8) rfl rfl Try.func96 k_ rfl #[.int .i64 a0] rfl (g2_) ?_; (with_reducible refine (cmp_isNaN_int.calls a0 false _ A3.out).mono ?_); rintro e w' ⟨rfl, ⟨nd, rfl⟩⟩; refine ⟨_, rfl, ?_⟩) | ((with_reducible refine gate_callee (f := 96) rfl ?_); refine goesL_ (some 10) rfl rfl Try.func96 k_ rfl #[.int .i64 a1] rfl (g2_) ?_; (with_reducible refine (cmp_isNaN_int.calls a1 false _ A4.out).mono ?_); rintro e w' ⟨rfl, ⟨nd, rfl⟩⟩; refine ⟨_, rfl, ?_⟩))
     go_ret
     exact ⟨g3_, g6_⟩
    ·rw [if_neg c9] at H
     have c9b0 := decide_eq_false c9
     clear c9
     obtain rfl := Option.some.inj H
     go_enter Try.func92, Try.ntmps92
     go_wp2_with (first | ((with_reducible refine gate_callee (f := 96) rfl ?_); refine goesL_ (some 8) rfl rfl Try.func96 k_ rfl #[.int .i64 a0] rfl (g2_) ?_; (with_reducible refine (cmp_isNaN_int.calls a0 false _ A3.out).mono ?_); rintro e w' ⟨rfl, ⟨nd, rfl⟩⟩; refine ⟨_, rfl, ?_⟩) | ((with_reducible refine gate_callee (f := 96) rfl ?_); refine goesL_ (some 10) rfl rfl Try.func96 k_ rfl #[.int .i64 a1] rfl (g2_) ?_; (with_reducible refine (cmp_isNaN_int.calls a1 false _ A4.out).mono ?_); rintro e w' ⟨rfl, ⟨nd, rfl⟩⟩; refine ⟨_, rfl, ?_⟩))
     go_ret
     exact ⟨g3_, g6_⟩
def impl_compare.f (a0_0 : Int) (a0_1 : Int) (a1_0 : Int) (a1_1 : Int) : Option (Int) := (cmp_Compare_int.f (wrap64 (a0_0 * a1_1)) (wrap64 (a1_0 * a0_1))).bind fun t377 => (some t377)
theorem impl_compare.calls_q0 {p : Prop} (h : p := by repeat (first | (with_reducible first | exact HB.out | apply below_alloc | apply pw_below_drewN | apply below_drew1 | refine below_set ?_ GE375.out | refine below_set ?_ GE376.out) | exact HB.out)) : p := h
set_option maxHeartbeats 8000000 in
set_option maxRecDepth 100000 in
theorem impl_compare.calls (a0_0 : Int) (a0_1 : Int) (a1_0 : Int) (a1_1 : Int) (r : Int) (w : World) (h : impl_compare.f a0_0 a0_1 a1_0 a1_1 = some r) :
  Calls Try.prog 74 #[.agg #[.int .i64 a0_0, .int .i64 a0_1], .agg #[.int .i64 a1_0, .int .i64 a1_1]] w fun e w' => e = .returned (.int .i64 r) ∧ Below w.heap.size w w' := by
 have hu36 := Try.underlying36
 have HB := Aside0.mk (Below.refl w.heap.size w)
 have H : ((cmp_Compare_int.f (wrap64 (a0_0 * a1_1)) (wrap64 (a1_0 * a0_1))).bind fun t377 => (some t377)) = some r := h
 clear h
 obtain ⟨t377, A3, H⟩ := bind_ H
 obtain rfl := Option.some.inj H
 go_enter Try.func74, Try.ntmps74
 go_wp2_with (first | ((with_reducible refine gate_dst (N := 2) rfl ?_); refine bx_ (N := 2) #[.int .i64 a0_0, .int .i64 a0_1] 36 ?_; intro gb375 hg w4 hbox hb; have BK375 := Aside0.mk (hbox); have GW375 := Aside0.mk ((g66_ : w.heap.size ≤ gb375)); have GE375 := Aside0.mk ((g66_ : w.heap.size ≤ gb375)); replace HB := Aside0.mk (below_step (impl_compare.calls_q0) hb); clear hb hbox hg) | ((with_reducible refine gate_dst (N := 3) rfl ?_); refine bx_ (N := 3) #[.int .i64 a1_0, .int .i64 a1_1] 36 ?_; intro gb376 hg w5 hbox hb; have BK376 := Aside0.mk (hbox); have GW376 := Aside0.mk ((g66_ : w.heap.size ≤ gb376)); have GE376 := Aside0.mk ((g66_ : w.heap.size ≤ gb376)); replace HB := Aside0.mk (below_step (impl_compare.calls_q0) hb); have NB375_376 := Aside0.mk ((by rw [hg]; exact Nat.ne_of_lt (blk_lt (g := gb375) (o := .cells #[.int .i64 a0_0, .int .i64 a0_1] 36 (0, 0)) (uf3_ BK375)) : gb375 ≠ gb376)); have NB376_375 := Aside0.mk ((by rw [hg]; exact Nat.ne_of_gt (blk_lt (g := gb375) (o := .cells #[.int .i64 a0_0, .int .i64 a0_1] 36 (0, 0)) (uf3_ BK375)) : gb376 ≠ gb375)); replace BK375 := bb_ BK375 hb; clear hb hbox hg; have hnb6 := NB375_376.out; have hnc6 := NB376_375.out; obtain ⟨hcz7_0, hcz7_1, hfz7_0, hfz7_1⟩ := blk2_ BK375; obtain ⟨hcz8_0, hcz8_1, hfz8_0, hfz8_1⟩ := blk2_ BK376) | ((with_reducible refine gate_callee (f := 92) rfl ?_); refine goesL_ (some 15) rfl rfl Try.func92 k_ rfl #[.int .i64 (wrap64 (a0_0 * a1_1)), .int .i64 (wrap64 (a1_0 * a0_1))] rfl (g2_) ?_; (with_reducible refine (cmp_Compare_int.calls (wrap64 (a0_0 * a1_1)) (wrap64 (a1_0 * a0_1)) t377 _ A3.out).mono ?_); rintro e w' ⟨rfl, ⟨nd, rfl⟩⟩; refine ⟨_, rfl, ?_⟩))
 go_ret
 exact ⟨g4_, impl_compare.calls_q0⟩
def impl_leadsTo.l0 : Nat → List (S36) → List Int → Int → Int → Option ((List (S36)) × Bool)
 | 0, _, _, _, _ => none
 | k + 1, x6, x19, x20, x21 => if x21 < x20 then (if 0 ≤ x21 then (if x21 < (x19.length : Int) then (if x21 < (x6.length : Int) then ((impl_whole.f (rd x19 x21)).bind fun bt388 => ((impl_compare.f ((rd_T36 x6 x21).f0) ((rd_T36 x6 x21).f1) bt388.1 bt388.2).bind fun t390 => (if t390 > 0 then ((impl_whole.f (rd x19 x21)).bind fun bt391 => (impl_leadsTo.l0 k (x6.set (x21 : Int).toNat (⟨bt391.1, bt391.2⟩ : S36)) x19 x20 (wrap64 (x21 + 1)))) else (impl_leadsTo.l0 k x6 x19 x20 (wrap64 (x21 + 1)))))) else (none)) else (none)) else (none)) else (some (x6, true))
def impl_leadsTo.f (k : Nat) (l0_0 : List Int) (l0_1 : List (List Int)) (l1 : List (S36)) : Option ((List (S36)) × Bool) := (impl_gets.f k l0_0 l0_1 l1).bind fun bt379 => (if bt379.2 = true then ((impl_owes.f k l0_0 l0_1).bind fun t383 => (impl_leadsTo.l0 k bt379.1 t383 (t383.length : Int) 0)) else (some (([] : List (S36)), false)))
theorem impl_leadsTo.mq {p : Prop} (h : p := by
 repeat' first
 | (with_reducible exact ih0 _ _ _ _)
 | (with_reducible exact impl_gets.mono _ _ _ _)
 | (with_reducible exact impl_owes.mono _ _ _)
 | (with_reducible exact LeO.refl _)
 | (with_reducible exact LeO.none _)
 | (with_reducible refine LeO.ite ?_ ?_)
 | (with_reducible refine LeO.bind ?_ (fun _ => ?_))
 | exact ih0 _ _ _ _
 | exact impl_gets.mono _ _ _ _
 | exact impl_owes.mono _ _ _
 | exact LeO.none _
 | refine LeO.ite ?_ ?_
 | refine LeO.bind ?_ (fun _ => ?_)) : p := h
theorem impl_leadsTo.mono_l : ∀ k, (∀ y0 y1 y2 y3, LeO (impl_leadsTo.l0 k y0 y1 y2 y3) (impl_leadsTo.l0 (k + 1) y0 y1 y2 y3))
 | 0 => fun _ _ _ _ r h => by simp [impl_leadsTo.l0] at h
 | k + 1 => by
  have ih0 := impl_leadsTo.mono_l k
  ·intro y0 y1 y2 y3
   unfold impl_leadsTo.l0
   exact impl_leadsTo.mq
theorem impl_leadsTo.mono : ∀ a0 a1 a2 k, LeO (impl_leadsTo.f k a0 a1 a2) (impl_leadsTo.f (k + 1) a0 a1 a2) := by
 intro a0 a1 a2 k
 have ih0 := impl_leadsTo.mono_l k
 unfold impl_leadsTo.f
 exact impl_leadsTo.mq
def impl_leadsTo.T7 : Bool × List (List Nat × List Nat) := (true, [([], []), ([], []), ([0, 1], [0, 1]), ([2], [2]), ([], []), ([4], [4]), ([3, 5, 5], [3, 5]), ([6], [6])])
def impl_leadsTo.B7 : List Nat := [0, 0, 3, 7, 0, 16, 63, 127]
theorem impl_leadsTo.tab7 : rtab .any (opsOf Try.f51 7) = impl_leadsTo.T7 := by kernel_rfl
theorem impl_leadsTo.bits7 : waitsOk impl_leadsTo.T7.2 impl_leadsTo.B7 = true := by kernel_rfl
theorem impl_leadsTo.calls_q0 {p : Prop} (h : p := by repeat (first | (with_reducible first | exact HB.out | apply below_alloc | apply pw_below_drewN | apply below_drew1 | refine below_set ?_ GE378.out) | exact HB.out)) : p := h
set_option maxHeartbeats 8000000 in
set_option maxRecDepth 100000 in
theorem impl_leadsTo.calls (k : Nat) (A0_0 : Option Addr) (c0_0 : Nat) (l0_0 : List Int) (A0_1 : Option Addr) (c0_1 : Nat) (l0_1 : List (List Int)) (A1 : Option Addr) (c1 : Nat) (l1 : List (S36)) (r1 : List (S36)) (r2 : Bool) (w : World) (hr0_0 : Kd.C (Kd.int .i64) w A0_0 l0_0.length l0_0) (hc0_0 : l0_0.length ≤ c0_0) (hr0_1 : Kd.C (Kd.slice 3 (Kd.int .i64)) w A0_1 l0_1.length l0_1) (hc0_1 : l0_1.length ≤ c0_1) (hr1 : Kd.C k36 w A1 l1.length l1) (hc1 : l1.length ≤ c1) (h : impl_leadsTo.f k l0_0 l0_1 l1 = some (r1, r2)) :
  Calls Try.prog 51 #[.agg #[.slice A0_0 l0_0.length c0_0, .slice A0_1 l0_1.length c0_1], .slice A1 l1.length c1] w fun e w' => ∃ v0_ : Value, e = .returned (.tuple #[v0_, .bool r2]) ∧ Kd.R k36 36 w' w.heap.size (fun _ => True) v0_ r1 ∧ Below w.heap.size w w' := by
 have hu26 := Try.underlying26
 have hu36 := Try.underlying36
 have HR0_0 := Aside0.mk hr0_0
 have HC0_0 := Aside0.mk hc0_0
 clear hr0_0 hc0_0
 have HR0_1 := Aside0.mk hr0_1
 have HC0_1 := Aside0.mk hc0_1
 clear hr0_1 hc0_1
 have HR1 := Aside0.mk hr1
 have HC1 := Aside0.mk hc1
 clear hr1 hc1
 have HB := Aside0.mk (Below.refl w.heap.size w)
 have H : ((impl_gets.f k l0_0 l0_1 l1).bind fun bt379 => (if bt379.2 = true then ((impl_owes.f k l0_0 l0_1).bind fun t383 => (impl_leadsTo.l0 k bt379.1 t383 (t383.length : Int) 0)) else (some (([] : List (S36)), false)))) = some (r1, r2) := h
 clear h
 replace H := Option.bind_eq_some_iff.mp H
 obtain ⟨⟨t379, t382⟩, A30, H⟩ := H
 replace H : (if t382 = true then ((impl_owes.f k l0_0 l0_1).bind fun t383 => (impl_leadsTo.l0 k t379 t383 (t383.length : Int) 0)) else (some (([] : List (S36)), false))) = some (r1, r2) := H
 have A3 := Aside0.mk A30
 clear A30
 by_cases c4 : t382 = true
 ·subst c4
  replace H := ifp_ H
  obtain ⟨t383, A5, H⟩ := bind_ H
  have H' := Aside0.mk H
  clear H
  go_enter Try.func51, Try.ntmps51
  go_wp2_with (first | ((with_reducible refine gate_dst (N := 2) rfl ?_); refine bx_ (N := 2) #[.slice A0_0 l0_0.length c0_0, .slice A0_1 l0_1.length c0_1] 26 ?_; intro gb378 hg w6 hbox hb; have BK378 := Aside0.mk (hbox); have GW378 := Aside0.mk ((g67_ : w.heap.size ≤ gb378)); have GE378 := Aside0.mk ((g67_ : w.heap.size ≤ gb378)); replace HB := Aside0.mk (below_step (impl_leadsTo.calls_q0) hb); clear hb hbox hg; obtain ⟨hcz7_0, hcz7_1, hfz7_0, hfz7_1⟩ := blk2_ BK378) | ((with_reducible refine gate_callee (f := 52) rfl ?_); refine goesL_ (some 13) rfl rfl Try.func52 k_ rfl #[.agg #[.slice A0_0 l0_0.length c0_0, .slice A0_1 l0_1.length c0_1], .slice A1 l1.length c1] rfl (g2_) ?_; (with_reducible refine (impl_gets.calls k _ _ l0_0 _ _ l0_1 _ _ l1 t379 true _ ?side1 ?side2 ?side3 ?side4 ?side5 ?side6 A3.out).mono ?_); (case side1 => exact uf0_ HR0_0); (case side2 => exact HC0_0.out); (case side3 => exact uf0_ HR0_1); (case side4 => exact HC0_1.out); (case side5 => exact uf0_ HR1); (case side6 => exact HC1.out); rintro e w8 ⟨v380, rfl, ho0, hb⟩; refine ⟨_, rfl, ?_⟩; have HO381 := Aside0.mk (Kd.R_lower ho0 (below_size (impl_leadsTo.calls_q0))); replace BK378 := bb_ BK378 hb; replace HB := Aside0.mk (below_step (impl_leadsTo.calls_q0) hb); (try clear hb); (try clear hk hi); (try clear ho0); obtain ⟨hcz9_0, hcz9_1, hfz9_0, hfz9_1⟩ := blk2_ BK378) | ((with_reducible refine gate_callee (f := 72) rfl ?_); refine goesL_ (some 19) rfl rfl Try.func72 k_ rfl #[.agg #[.slice A0_0 l0_0.length c0_0, .slice A0_1 l0_1.length c0_1]] rfl (g2_) ?_; (with_reducible refine (impl_owes.calls k _ _ l0_0 _ _ l0_1 t383 _ ?side1 ?side2 ?side3 ?side4 A5.out).mono ?_); (case side1 => exact uf0_ HR0_0); (case side2 => exact HC0_0.out); (case side3 => exact uf0_ HR0_1); (case side4 => exact HC0_1.out); rintro e w10 ⟨v384, rfl, ho0, hb⟩; refine ⟨_, rfl, ?_⟩; replace HO381 := Aside0.mk (Kd.R_below (uf1_ HO381) hb); have HO385 := Aside0.mk (Kd.R_lower ho0 (below_size (impl_leadsTo.calls_q0))); replace BK378 := bb_ BK378 hb; replace HB := Aside0.mk (below_step (impl_leadsTo.calls_q0) hb); (try clear hb); (try clear hk hi); (try clear ho0); obtain ⟨Ao11, co11, eo11⟩ := Kd.R_slice HO385.out; subst eo11))
  go_loopg [21] k (fun kq v21 w' => ∃ (x6_1 : List (S36)) (x21_1 : Int), v21 = .int .i64 x21_1 ∧ Aside0 (impl_leadsTo.l0 kq x6_1 t383 (t383.length : Int) x21_1 = some (r1, r2)) ∧ Aside0 (kq ≤ k) ∧ Aside0 (Kd.R k36 36 w' w.heap.size (fun _ => True) v380 x6_1) ∧ Aside0 (Kd.R (Kd.int .i64) 3 w' w.heap.size (fun _ => True) (.slice Ao11 t383.length co11) t383) ∧ Aside0 (w'.heap[gb378]? = some (.cells #[(.slice A0_0 l0_0.length c0_0), (.slice A0_1 l0_1.length c0_1)] 26 (0, 0))) ∧ Aside0 (Below w.heap.size w w'))
  case atStart => exact ⟨(t379), (0), (g3_), H', ⟨Nat.le_refl _⟩, ⟨uf1_ HO381⟩, ⟨uf1_ HO385⟩, ⟨uf3_ BK378⟩, ⟨impl_leadsTo.calls_q0⟩⟩
  case round =>
   clear H'
   try clear c1
   try clear p2
   try clear c4
   try clear c5
   try clear c7
   try clear hcz7_0
   try clear hcz7_1
   try clear hcz9_0
   try clear hcz9_1
   try clear hfz7_0
   try clear hfz7_1
   try clear hfz9_0
   try clear hfz9_1
   obtain ⟨x6_1, x21_1, rfl, HA, HK1, HO_6, HO_19, BK378, HB⟩ := hrel
   cases gk with
   | zero => exact absurd HA.out (by simp [impl_leadsTo.l0])
   | succ k1 =>
    have H := HA.out
    clear HA
    simp only [impl_leadsTo.l0] at H
    by_cases c12 : x21_1 < (t383.length : Int)
    ·rw [if_pos c12] at H
     have c12b0 := decide_eq_true c12
     clear c12
     obtain ⟨c13, H⟩ := pos_ H
     have c13b0 := decide_eq_true c13
     clear c13
     obtain ⟨c14, H⟩ := pos_ H
     have c14b0 := decide_eq_true c14
     clear c14
     obtain ⟨c15, H⟩ := pos_ H
     have c15b0 := decide_eq_true c15
     clear c15
     replace H := Option.bind_eq_some_iff.mp H
     obtain ⟨⟨t388, t389⟩, A160, H⟩ := H
     replace H : ((impl_compare.f ((rd_T36 x6_1 x21_1).f0) ((rd_T36 x6_1 x21_1).f1) t388 t389).bind fun t390 => (if t390 > 0 then ((impl_whole.f (rd t383 x21_1)).bind fun bt391 => (impl_leadsTo.l0 k1 (x6_1.set (x21_1 : Int).toNat (⟨bt391.1, bt391.2⟩ : S36)) t383 (t383.length : Int) (wrap64 (x21_1 + 1)))) else (impl_leadsTo.l0 k1 x6_1 t383 (t383.length : Int) (wrap64 (x21_1 + 1))))) = some (r1, r2) := H
     have A16 := Aside0.mk A160
     clear A160
     obtain ⟨t390, A17, H⟩ := bind_ H
     by_cases c18 : t390 > 0
     ·rw [if_pos c18] at H
      have c18b0 := decide_eq_true c18
      clear c18
      replace H := Option.bind_eq_some_iff.mp H
      obtain ⟨⟨t391, t392⟩, A190, H⟩ := H
      replace H : (impl_leadsTo.l0 k1 (x6_1.set (x21_1 : Int).toNat (⟨t391, t392⟩ : S36)) t383 (t383.length : Int) (wrap64 (x21_1 + 1))) = some (r1, r2) := H
      have A19 := Aside0.mk A190
      clear A190
      obtain ⟨y393, hy393⟩ : ∃ y_ : List (S36), y_ = (x6_1.set (x21_1 : Int).toNat (⟨t391, t392⟩ : S36)) := ⟨_, rfl⟩
      replace H : (impl_leadsTo.l0 k1 y393 t383 (t383.length : Int) (wrap64 (x21_1 + 1))) = some (r1, r2) := by first | (rw [hy393]; with_reducible exact H) | (have H2_ := (Option.bind_some _ _).symm.trans H; rw [hy393]; with_reducible exact H2_) | (have H2_ := (Option.bind_some _ _).symm.trans H; with_reducible exact H2_) | with_reducible exact H | (rw [hy393]; exact H) | exact H
      have Ny393 := Aside0.mk hy393
      clear hy393
      have H' := Aside0.mk H
      clear H
      have p386 : 0 ≤ (x21_1 : Int) := of_decide_eq_true (g1_)
      have q386 : x21_1 < (t383.length : Int) := of_decide_eq_true (g1_)
      obtain ⟨ad386, e386, hx386_0⟩ := Kd.at_int (Kd.R_reads' HO_19.out).2.2 x21_1 p386 q386
      cases e386
      replace p386 := eq_true p386
      replace q386 := eq_true q386
      try go_wp2
      replace HO_6 := Aside0.mk (Kd.R_drew HO_6.out)
      replace HO_19 := Aside0.mk (Kd.R_drew HO_19.out)
      replace BK378 := Aside0.mk (blk_drew BK378.out)
      replace HB := Aside0.mk (below_drew1 HB.out)
      obtain ⟨Ao22, co22, eo22⟩ := Kd.R_slice HO_6.out
      (first | subst eo22 | (injection eo22 with f1_ f2_ f3_; have f4_ := f1_.symm; have f5_ := f3_.symm; clear f1_ f2_ f3_; subst f4_; subst f5_))
      have p387 : 0 ≤ (x21_1 : Int) := of_decide_eq_true (g1_)
      have q387 : x21_1 < (x6_1.length : Int) := of_decide_eq_true (g1_)
      obtain ⟨ad387, e387, hx387_0, hx387_1⟩ := at_T36 (Kd.R_reads' HO_6.out).2.2 x21_1 p387 q387
      cases e387
      replace p387 := eq_true p387
      replace q387 := eq_true q387
      refine start_ (n := 8) (S := fun w' => w'.cell? (ad387.add ((x21_1).toNat * 2)) = some (.int .i64 ((rd_T36 x6_1 x21_1).f0)) ∧ w'.cell? ⟨(ad387.add ((x21_1).toNat * 2)).block, (ad387.add ((x21_1).toNat * 2)).off + 1, none⟩ = some (.int .i64 ((rd_T36 x6_1 x21_1).f1))) (ds := []) (tl_ 8 0) (g0_) rfl (g0_) ⟨hx387_0, hx387_1⟩ (fun hHeld => ?_); refine with_tabW impl_leadsTo.tab7 impl_leadsTo.bits7 (fun HT_ HW_ => ?_)
      generalize wr.drew = w21 at HO_6 HO_19 BK378 HB hx387_0 hx387_1 hHeld ⊢
      refine pw_ 0 26 (tl_ 8 1) rfl rfl ?_
      refine pw_ 1 27 (tl_ 8 3) rfl rfl ?_
      refine pw_ 2 28 (tl_ 8 7) rfl rfl ?_
      refine pw_ 4 30 (tl_ 8 23) rfl rfl ?_
      refine tk4_ 3 29 (tl_ 8 31) rfl rfl hHeld ?_
      refine one_ (i := 5) (N := some 31) (tl_ 8 63) rfl rfl (one_of HT_.out (g0_)) (by decide) (fun K hK => ?_)
      refine goes_ Try.func69 (g0_) rfl #[.int .i64 (rd t383 x21_1)] (by rfl) rfl rfl (g2_) ?_
      with_reducible refine (impl_whole.calls (rd t383 x21_1) t388 t389 _ A16.out).mono ?_
      rintro e w23 ⟨rfl, hb⟩
      have HS0_ := (hb.cell (World.block_lt_of_cell? _ _ (hHeld.1))).trans (hHeld.1)
      have HS1_ := (hb.cell (World.block_lt_of_cell? _ _ (hHeld.2))).trans (hHeld.2)
      refine ⟨_, rfl, ?_⟩
      replace HO_6 := Aside0.mk (Kd.R_below (uf1_ HO_6) hb)
      replace HO_19 := Aside0.mk (Kd.R_below (uf1_ HO_19) hb)
      replace BK378 := bb_ BK378 hb
      replace HB := Aside0.mk (below_step (impl_leadsTo.calls_q0) hb)
      (try clear hb)
      (try clear hk hi)
      refine hK.out _ _ ⟨HS0_, HS1_⟩ (fun hHeld => ?_)
      clear hK K
      refine nm_ ?_
      refine one_ (i := 6) (N := some 32) (tl_ 8 127) rfl rfl (one_of HT_.out (g0_)) (by decide) (fun K hK => ?_)
      refine goes_ Try.func74 (g0_) rfl #[.agg #[.int .i64 ((rd_T36 x6_1 x21_1).f0), .int .i64 ((rd_T36 x6_1 x21_1).f1)], .agg #[.int .i64 t388, .int .i64 t389]] (by rfl) rfl rfl (g2_) ?_
      with_reducible refine (impl_compare.calls ((rd_T36 x6_1 x21_1).f0) ((rd_T36 x6_1 x21_1).f1) t388 t389 t390 _ A17.out).mono ?_
      rintro e w24 ⟨rfl, hb⟩
      have HS0_ := (hb.cell (World.block_lt_of_cell? _ _ (hHeld.1))).trans (hHeld.1)
      have HS1_ := (hb.cell (World.block_lt_of_cell? _ _ (hHeld.2))).trans (hHeld.2)
      refine ⟨_, rfl, ?_⟩
      replace HO_6 := Aside0.mk (Kd.R_below (uf1_ HO_6) hb)
      replace HO_19 := Aside0.mk (Kd.R_below (uf1_ HO_19) hb)
      replace BK378 := bb_ BK378 hb
      replace HB := Aside0.mk (below_step (impl_leadsTo.calls_q0) hb)
      (try clear hb)
      (try clear hk hi)
      refine hK.out _ _ ⟨HS0_, HS1_⟩ (fun hHeld => ?_)
      clear hK K
      refine nm_ ?_
      refine pw_ 7 33 (tl_ 8 255) rfl rfl ?_
      refine done_ (done_of HT_.out (g0_)) ?_
      try go_wp2_with (first | ((with_reducible refine gate_callee (f := 69) rfl ?_); refine goesL_ (some 37) rfl rfl Try.func69 k_ rfl #[.int .i64 (rd t383 x21_1)] rfl (g2_) ?_; (with_reducible refine (impl_whole.calls (rd t383 x21_1) t391 t392 _ A19.out).mono ?_); rintro e w25 ⟨rfl, hb⟩; refine ⟨_, rfl, ?_⟩; replace HO_6 := Aside0.mk (Kd.R_below (uf1_ HO_6) hb); replace HO_19 := Aside0.mk (Kd.R_below (uf1_ HO_19) hb); replace BK378 := bb_ BK378 hb; replace HB := Aside0.mk (below_step (impl_leadsTo.calls_q0) hb); (try clear hb); (try clear hk hi); have p20 : 0 ≤ (x21_1 : Int) := of_decide_eq_true (g1_); have q20 : (x21_1 : Int) < ((x6_1.length : Int) : Int) := of_decide_eq_true (g1_); obtain ⟨go20, co20, eo20, gb20, gl20, cl20, HG20⟩ := Kd.R_form HO_6.out (by omega); (first | cases eo20 | (injection eo20 with ea_ en_ ec_; (first | subst ea_ | (injection ea_ with ea_; subst ea_)); subst ec_; clear en_)); have GB20 := Aside0.mk gb20; have GG20 := Aside0.mk HG20; clear gb20 gl20 HG20; (first | simp only [add_plain] at hx387_0 | skip); (first | simp only [add_plain] at hx387_1 | skip); obtain ⟨ce20, hcl20, hM20, hcc20, hfr20⟩ := Kd.R_elem HO_6.out z36 (x21_1 : Int) p20 q20; obtain rfl := k36_openM hM20; have hx20_0 : w25.cell? ⟨go20, (x21_1 : Int).toNat * 2, none⟩ = some (.int .i64 ((rd_T36 x6_1 x21_1).f0)) := hcc20 0 _ rfl; have hx20_1 : w25.cell? ⟨go20, (x21_1 : Int).toNat * 2 + 1, none⟩ = some (.int .i64 ((rd_T36 x6_1 x21_1).f1)) := hcc20 1 _ rfl; have hf20_0 : w25.frozen? ⟨go20, (x21_1 : Int).toNat * 2, none⟩ = false := hfr20 0; have hf20_1 : w25.frozen? ⟨go20, (x21_1 : Int).toNat * 2 + 1, none⟩ = false := hfr20 1; clear hcl20 hcc20 hfr20 hM20; replace p20 := eq_true p20; replace q20 := eq_true q20; have HX26 := Aside0.mk (show Kd.R k36 36 w25 w.heap.size (fun _ => True) (.slice (some ⟨go20, 0, none⟩) x6_1.length co22) x6_1 from (uf1_ HO_6)); obtain ⟨ce26, hcl26, hM26, hcc26, hfr26⟩ := Kd.R_elem HX26.out z36 (x21_1 : Int) (of_decide_eq_true (g1_)) (by have h_ : (x21_1 : Int) < ((x6_1.length : Int) : Int) := of_decide_eq_true (g1_); first | exact h_ | (have e_ := (Kd.R_reads' HO_6.out).1; omega) | simpa using h_); obtain rfl := k36_openM hM26; have HP26 := Kd.R_seg HX26.out (x21_1 : Int) (of_decide_eq_true (g1_)) (by have h_ : (x21_1 : Int) < ((x6_1.length : Int) : Int) := of_decide_eq_true (g1_); first | exact h_ | (have e_ := (Kd.R_reads' HO_6.out).1; omega) | simpa using h_) (seg := [.int .i64 t391, .int .i64 t392]) (j := 0) hcl26 hcc26 (show 2 ≤ 2 from by decide) (x' := (⟨t391, t392⟩ : S36)) (k36_mkM _ _ _ (⟨t391, t392⟩ : S36) ) (fun _ hk => hk); have hx26_0 := hcc26 0 _ rfl; (try simp only [show (k36).sz = 2 from rfl, Nat.mul_one, Nat.add_zero] at hx26_0); have hf26_0 := hfr26 0; (try simp only [show (k36).sz = 2 from rfl, Nat.mul_one, Nat.add_zero] at hf26_0); have hx26_1 := hcc26 1 _ rfl; (try simp only [show (k36).sz = 2 from rfl, Nat.mul_one, Nat.add_zero] at hx26_1); have hf26_1 := hfr26 1; (try simp only [show (k36).sz = 2 from rfl, Nat.mul_one, Nat.add_zero] at hf26_1); clear hcl26 hcc26 hfr26 hM26) | ((with_reducible refine gate_store (t := 36) (p := 38) rfl ?_); refine store_event (t := 36) (p := 38) (v := ?vo_w27) (w1 := ((w25.setCell ⟨go20, (x21_1 : Int).toNat * 2, none⟩ (.int .i64 t391)).setCell ⟨go20, (x21_1 : Int).toNat * 2 + 1, none⟩ (.int .i64 t392))) ?hg ?ho ?hn ?hr ?_; (case ho => rfl); (case hg => rfl); (case hn => rfl); (case hr => first | (go_simp; done) | (go_simp; rfl)); intro w27 hw; have hg : w25.grownBy w27 (some go20) := (by rw [hw]; exact HP26.2); have hp_ : Kd.R k36 36 w27 w.heap.size (fun _ => True) (.slice (some ⟨go20, 0, none⟩) x6_1.length co22) y393 := (by rw [hw, Ny393.out]; exact HP26.1); clear HP26; replace HO_19 := Aside0.mk (Kd.R_over' (v := (.slice (some ⟨go20, 0, none⟩) x6_1.length co22)) (uf1_ HO_19) (Kd.R_typed HO_6.out) (by decide) hg); replace BK378 := Aside0.mk (blk_grown (g := gb378) (o := .cells #[.slice A0_0 l0_0.length c0_0, .slice A0_1 l0_1.length c0_1] 26 (0, 0)) (uf3_ BK378) hg (Kd.R_ne HO_6.out BK378.out (by decide))); replace HO_6 := Aside0.mk (hp_); replace HB := Aside0.mk ((by rw [hw]; exact below_set (below_set (HB.out) GB20.out) GB20.out : Below w.heap.size w w27)); clear hg hw hp_))
      go_roundg k1
      case measure => have := HK1.out; omega
      case rel => exact ⟨(y393), (wrap64 (x21_1 + 1)), (g3_), H', ⟨g12_⟩, ⟨uf1_ HO_6⟩, ⟨uf1_ HO_19⟩, ⟨uf3_ BK378⟩, ⟨impl_leadsTo.calls_q0⟩⟩
     ·rw [if_neg c18] at H
      have c18b0 := decide_eq_false c18
      clear c18
      have H' := Aside0.mk H
      clear H
      have p386 : 0 ≤ (x21_1 : Int) := of_decide_eq_true (g1_)
      have q386 : x21_1 < (t383.length : Int) := of_decide_eq_true (g1_)
      obtain ⟨ad386, e386, hx386_0⟩ := Kd.at_int (Kd.R_reads' HO_19.out).2.2 x21_1 p386 q386
      cases e386
      replace p386 := eq_true p386
      replace q386 := eq_true q386
      try go_wp2
      replace HO_6 := Aside0.mk (Kd.R_drew HO_6.out)
      replace HO_19 := Aside0.mk (Kd.R_drew HO_19.out)
      replace BK378 := Aside0.mk (blk_drew BK378.out)
      replace HB := Aside0.mk (below_drew1 HB.out)
      obtain ⟨Ao29, co29, eo29⟩ := Kd.R_slice HO_6.out
      (first | subst eo29 | (injection eo29 with f1_ f2_ f3_; have f4_ := f1_.symm; have f5_ := f3_.symm; clear f1_ f2_ f3_; subst f4_; subst f5_))
      have p387 : 0 ≤ (x21_1 : Int) := of_decide_eq_true (g1_)
      have q387 : x21_1 < (x6_1.length : Int) := of_decide_eq_true (g1_)
      obtain ⟨ad387, e387, hx387_0, hx387_1⟩ := at_T36 (Kd.R_reads' HO_6.out).2.2 x21_1 p387 q387
      cases e387
      replace p387 := eq_true p387
      replace q387 := eq_true q387
      refine start_ (n := 8) (S := fun w' => w'.cell? (ad387.add ((x21_1).toNat * 2)) = some (.int .i64 ((rd_T36 x6_1 x21_1).f0)) ∧ w'.cell? ⟨(ad387.add ((x21_1).toNat * 2)).block, (ad387.add ((x21_1).toNat * 2)).off + 1, none⟩ = some (.int .i64 ((rd_T36 x6_1 x21_1).f1))) (ds := []) (tl_ 8 0) (g0_) rfl (g0_) ⟨hx387_0, hx387_1⟩ (fun hHeld => ?_); refine with_tabW impl_leadsTo.tab7 impl_leadsTo.bits7 (fun HT_ HW_ => ?_)
      generalize wr.drew = w28 at HO_6 HO_19 BK378 HB hx387_0 hx387_1 hHeld ⊢
      refine pw_ 0 26 (tl_ 8 1) rfl rfl ?_
      refine pw_ 1 27 (tl_ 8 3) rfl rfl ?_
      refine pw_ 2 28 (tl_ 8 7) rfl rfl ?_
      refine pw_ 4 30 (tl_ 8 23) rfl rfl ?_
      refine tk4_ 3 29 (tl_ 8 31) rfl rfl hHeld ?_
      refine one_ (i := 5) (N := some 31) (tl_ 8 63) rfl rfl (one_of HT_.out (g0_)) (by decide) (fun K hK => ?_)
      refine goes_ Try.func69 (g0_) rfl #[.int .i64 (rd t383 x21_1)] (by rfl) rfl rfl (g2_) ?_
      with_reducible refine (impl_whole.calls (rd t383 x21_1) t388 t389 _ A16.out).mono ?_
      rintro e w30 ⟨rfl, hb⟩
      have HS0_ := (hb.cell (World.block_lt_of_cell? _ _ (hHeld.1))).trans (hHeld.1)
      have HS1_ := (hb.cell (World.block_lt_of_cell? _ _ (hHeld.2))).trans (hHeld.2)
      refine ⟨_, rfl, ?_⟩
      replace HO_6 := Aside0.mk (Kd.R_below (uf1_ HO_6) hb)
      replace HO_19 := Aside0.mk (Kd.R_below (uf1_ HO_19) hb)
      replace BK378 := bb_ BK378 hb
      replace HB := Aside0.mk (below_step (impl_leadsTo.calls_q0) hb)
      (try clear hb)
      (try clear hk hi)
      refine hK.out _ _ ⟨HS0_, HS1_⟩ (fun hHeld => ?_)
      clear hK K
      refine nm_ ?_
      refine one_ (i := 6) (N := some 32) (tl_ 8 127) rfl rfl (one_of HT_.out (g0_)) (by decide) (fun K hK => ?_)
      refine goes_ Try.func74 (g0_) rfl #[.agg #[.int .i64 ((rd_T36 x6_1 x21_1).f0), .int .i64 ((rd_T36 x6_1 x21_1).f1)], .agg #[.int .i64 t388, .int .i64 t389]] (by rfl) rfl rfl (g2_) ?_
      with_reducible refine (impl_compare.calls ((rd_T36 x6_1 x21_1).f0) ((rd_T36 x6_1 x21_1).f1) t388 t389 t390 _ A17.out).mono ?_
      rintro e w31 ⟨rfl, hb⟩
      have HS0_ := (hb.cell (World.block_lt_of_cell? _ _ (hHeld.1))).trans (hHeld.1)
      have HS1_ := (hb.cell (World.block_lt_of_cell? _ _ (hHeld.2))).trans (hHeld.2)
      refine ⟨_, rfl, ?_⟩
      replace HO_6 := Aside0.mk (Kd.R_below (uf1_ HO_6) hb)
      replace HO_19 := Aside0.mk (Kd.R_below (uf1_ HO_19) hb)
      replace BK378 := bb_ BK378 hb
      replace HB := Aside0.mk (below_step (impl_leadsTo.calls_q0) hb)
      (try clear hb)
      (try clear hk hi)
      refine hK.out _ _ ⟨HS0_, HS1_⟩ (fun hHeld => ?_)
      clear hK K
      refine nm_ ?_
      refine pw_ 7 33 (tl_ 8 255) rfl rfl ?_
      refine done_ (done_of HT_.out (g0_)) ?_
      try go_wp2
      go_roundg k1
      case measure => have := HK1.out; omega
      case rel => exact ⟨(x6_1), (wrap64 (x21_1 + 1)), (g3_), H', ⟨g12_⟩, ⟨uf1_ HO_6⟩, ⟨uf1_ HO_19⟩, ⟨uf3_ BK378⟩, ⟨impl_leadsTo.calls_q0⟩⟩
    ·rw [if_neg c12] at H
     have c12b0 := decide_eq_false c12
     clear c12
     simp only [Option.some.injEq, Prod.mk.injEq] at H
     obtain ⟨rfl, rfl⟩ := H
     go_wp2
     go_ret2
     exact ⟨_, g4_, uf1_ HO_6, impl_leadsTo.calls_q0⟩
 ·replace c4 := Bool.eq_false_iff.mpr c4
  subst c4
  replace H := ifn_ H
  simp only [Option.some.injEq, Prod.mk.injEq] at H
  obtain ⟨rfl, rfl⟩ := H
  go_enter Try.func51, Try.ntmps51
  go_wp2_with (first | ((with_reducible refine gate_dst (N := 2) rfl ?_); refine bx_ (N := 2) #[.slice A0_0 l0_0.length c0_0, .slice A0_1 l0_1.length c0_1] 26 ?_; intro gb378 hg w32 hbox hb; have BK378 := Aside0.mk (hbox); have GW378 := Aside0.mk ((g67_ : w.heap.size ≤ gb378)); have GE378 := Aside0.mk ((g67_ : w.heap.size ≤ gb378)); replace HB := Aside0.mk (below_step (impl_leadsTo.calls_q0) hb); clear hb hbox hg; obtain ⟨hcz33_0, hcz33_1, hfz33_0, hfz33_1⟩ := blk2_ BK378) | ((with_reducible refine gate_callee (f := 52) rfl ?_); refine goesL_ (some 13) rfl rfl Try.func52 k_ rfl #[.agg #[.slice A0_0 l0_0.length c0_0, .slice A0_1 l0_1.length c0_1], .slice A1 l1.length c1] rfl (g2_) ?_; (with_reducible refine (impl_gets.calls k _ _ l0_0 _ _ l0_1 _ _ l1 t379 false _ ?side1 ?side2 ?side3 ?side4 ?side5 ?side6 A3.out).mono ?_); (case side1 => exact uf0_ HR0_0); (case side2 => exact HC0_0.out); (case side3 => exact uf0_ HR0_1); (case side4 => exact HC0_1.out); (case side5 => exact uf0_ HR1); (case side6 => exact HC1.out); rintro e w34 ⟨v380, rfl, ho0, hb⟩; refine ⟨_, rfl, ?_⟩; have HO381 := Aside0.mk (Kd.R_lower ho0 (below_size (impl_leadsTo.calls_q0))); replace BK378 := bb_ BK378 hb; replace HB := Aside0.mk (below_step (impl_leadsTo.calls_q0) hb); (try clear hb); (try clear hk hi); (try clear ho0)))
  go_ret2
  exact ⟨_, g4_, g36_, impl_leadsTo.calls_q0⟩
mutual
def impl_after.j0 : Nat → List (S36) → Int → Bool → List Int → List (List Int) → Option ((List (S36)) × Bool)
 | 0, _, _, _, _, _ => none
 | k + 1, x1, x2, x15, x395000, x395001 => if x15 = true then (some (([] : List (S36)), false)) else (impl_after.l0 k x1 x2 0 x395000 x395001)
def impl_after.l0 : Nat → List (S36) → Int → Int → List Int → List (List Int) → Option ((List (S36)) × Bool)
 | 0, _, _, _, _, _ => none
 | k + 1, x1, x16, x17, x395000, x395001 => if x17 < x16 then ((impl_leadsTo.f k x395000 x395001 x1).bind fun bt395 => (if bt395.2 = true then (impl_after.l0 k bt395.1 x16 (wrap64 (x17 + 1)) x395000 x395001) else (some (([] : List (S36)), false)))) else (some (x1, true))
end
def impl_after.f (k : Nat) (l0_0 : List Int) (l0_1 : List (List Int)) (l1 : List (S36)) (a2 : Int) : Option ((List (S36)) × Bool) := if a2 < 0 then (impl_after.j0 k l1 a2 true l0_0 l0_1) else (impl_after.j0 k l1 a2 (decide (a2 > 4)) l0_0 l0_1)
theorem impl_after.mq {p : Prop} (h : p := by
 repeat' first
 | (with_reducible exact ih0 _ _ _ _ _)
 | (with_reducible exact ih1 _ _ _ _ _)
 | (with_reducible exact impl_leadsTo.mono _ _ _ _)
 | (with_reducible exact LeO.refl _)
 | (with_reducible exact LeO.none _)
 | (with_reducible refine LeO.ite ?_ ?_)
 | (with_reducible refine LeO.bind ?_ (fun _ => ?_))
 | exact ih0 _ _ _ _ _
 | exact ih1 _ _ _ _ _
 | exact impl_leadsTo.mono _ _ _ _
 | exact LeO.none _
 | refine LeO.ite ?_ ?_
 | refine LeO.bind ?_ (fun _ => ?_)) : p := h
theorem impl_after.mono_l : ∀ k, (∀ y0 y1 y2 y3 y4, LeO (impl_after.j0 k y0 y1 y2 y3 y4) (impl_after.j0 (k + 1) y0 y1 y2 y3 y4)) ∧ (∀ y0 y1 y2 y3 y4, LeO (impl_after.l0 k y0 y1 y2 y3 y4) (impl_after.l0 (k + 1) y0 y1 y2 y3 y4))
 | 0 => ⟨fun _ _ _ _ _ r h => by simp [impl_after.j0] at h, fun _ _ _ _ _ r h => by simp [impl_after.l0] at h⟩
 | k + 1 => by
  obtain ⟨ih0, ih1⟩ := impl_after.mono_l k
  refine ⟨?_, ?_⟩
  ·intro y0 y1 y2 y3 y4
   unfold impl_after.j0
   exact impl_after.mq
  ·intro y0 y1 y2 y3 y4
   unfold impl_after.l0
   exact impl_after.mq
theorem impl_after.mono : ∀ a0 a1 a2 a3 k, LeO (impl_after.f k a0 a1 a2 a3) (impl_after.f (k + 1) a0 a1 a2 a3) := by
 intro a0 a1 a2 a3 k
 obtain ⟨ih0, ih1⟩ := impl_after.mono_l k
 unfold impl_after.f
 exact impl_after.mq
theorem impl_after.calls_q0 {p : Prop} (h : p := by repeat (first | (with_reducible first | exact HK.out | apply Kept.alloc | apply Kept.drewN | apply Kept.drew | refine Kept.setCell ?_ (.inr GW394.out) _) | exact HK.out)) : p := h
theorem impl_after.calls_q1 {p : Prop} (h : p := by repeat (first | (with_reducible first | exact HB.out | apply below_alloc | apply pw_below_drewN | apply below_drew1 | refine below_set ?_ GE394.out) | exact HB.out)) : p := h
set_option maxHeartbeats 8000000 in
set_option maxRecDepth 100000 in
theorem impl_after.calls (k : Nat) (A0_0 : Option Addr) (c0_0 : Nat) (l0_0 : List Int) (A0_1 : Option Addr) (c0_1 : Nat) (l0_1 : List (List Int)) (P1_ : Nat → Prop) (u9000_ : Value) (l1 : List (S36)) (a2 : Int) (r1 : List (S36)) (r2 : Bool) (w0 w : World) (hB : Below w0.heap.size w0 w) (hr0_0 : ∀ W_, Kept w W_ (fun k_ => P1_ k_) → Kd.C (Kd.int .i64) W_ A0_0 l0_0.length l0_0) (hc0_0 : l0_0.length ≤ c0_0) (hr0_1 : ∀ W_, Kept w W_ (fun k_ => P1_ k_) → Kd.C (Kd.slice 3 (Kd.int .i64)) W_ A0_1 l0_1.length l0_1) (hc0_1 : l0_1.length ≤ c0_1) (ho1 : Kd.R k36 36 w w0.heap.size P1_ u9000_ l1) (h : impl_after.f k l0_0 l0_1 l1 a2 = some (r1, r2)) :
  Calls Try.prog 66 #[.agg #[.slice A0_0 l0_0.length c0_0, .slice A0_1 l0_1.length c0_1], u9000_, .int .i64 a2] w fun e w' => ∃ v0_ : Value, e = .returned (.tuple #[v0_, .bool r2]) ∧ Kd.R k36 36 w' w0.heap.size (fun k_ => (P1_ k_ ∨ w.heap.size ≤ k_)) v0_ r1 ∧ Below w0.heap.size w0 w' ∧ Kept w w' (fun k_ => P1_ k_) := by
 have hu26 := Try.underlying26
 have HR0_0 := Aside0.mk hr0_0
 have HC0_0 := Aside0.mk hc0_0
 clear hr0_0 hc0_0
 have HR0_1 := Aside0.mk hr0_1
 have HC0_1 := Aside0.mk hc0_1
 clear hr0_1 hc0_1
 have HO1 := Aside0.mk (show Kd.R k36 36 w w0.heap.size (fun k_ => (P1_ k_ ∨ w.heap.size ≤ k_)) u9000_ l1 from Kd.R_mono ho1 (fun k_ hk => (.inl hk)))
 have HK := Aside0.mk (Kept.refl w (fun k_ => P1_ k_))
 have HW0 := Aside0.mk hB.size
 have HB := Aside0.mk hB
 clear hB
 have H : (if a2 < 0 then (impl_after.j0 k l1 a2 true l0_0 l0_1) else (impl_after.j0 k l1 a2 (decide (a2 > 4)) l0_0 l0_1)) = some (r1, r2) := h
 clear h
 have HC4 := Aside0.mk H
 clear H
 go_enter Try.func66, Try.ntmps66
 go_upto_region 1 with (first | ((with_reducible refine gate_dst (N := 3) rfl ?_); refine bx_ (N := 3) #[.slice A0_0 l0_0.length c0_0, .slice A0_1 l0_1.length c0_1] 26 ?_; intro gb394 hg w5 hbox hb; replace HO1 := Aside0.mk (Kd.R_below (uf1_ HO1) hb); have BK394 := Aside0.mk (hbox); have GW394 := Aside0.mk ((by rw [hg]; exact (g108_) : w.heap.size ≤ gb394)); replace HK := Aside0.mk (Kept.below (S := (fun k_ => P1_ k_)) (impl_after.calls_q0) hb); have GE394 := Aside0.mk ((by rw [hg]; exact (below_size (impl_after.calls_q1)) : w0.heap.size ≤ gb394)); replace HB := Aside0.mk (below_step (impl_after.calls_q1) hb); clear hb hbox hg))
 (try simp only [Act.put, List.setIfInBounds_toArray, List.set_cons_zero, List.set_cons_succ])
 go_cut [15] (fun v15 wc => ∃ (kq : Nat) (x15_3 : Bool), v15 = .bool x15_3 ∧ Aside0 (impl_after.j0 kq l1 a2 x15_3 l0_0 l0_1 = some (r1, r2)) ∧ Aside0 (kq ≤ k) ∧ Aside0 (Kd.R k36 36 wc w0.heap.size (fun k_ => (P1_ k_ ∨ w.heap.size ≤ k_)) u9000_ l1) ∧ Aside0 (wc.heap[gb394]? = some (.cells #[(.slice A0_0 l0_0.length c0_0), (.slice A0_1 l0_1.length c0_1)] 26 (0, 0))) ∧ Aside0 (Kept w wc (fun k_ => P1_ k_)) ∧ Aside0 (Below w0.heap.size w0 wc))
 case first =>
  have H := HC4.out
  clear HC4
  by_cases c6 : a2 < 0
  ·rw [if_pos c6] at H
   have c6b0 := decide_eq_true c6
   clear c6
   (first | rw [c6b0] | (simp only [i64_w, i32_w]; rw [c6b0]) | skip)
   have H' := Aside0.mk H
   clear H
   go_wp2
   go_meet
   case rel => exact ⟨_, (true), (g3_), H', ⟨g15_⟩, ⟨uf1_ HO1⟩, ⟨uf3_ BK394⟩, ⟨impl_after.calls_q0⟩, ⟨impl_after.calls_q1⟩⟩
  ·rw [if_neg c6] at H
   have c6b0 := decide_eq_false c6
   clear c6
   (first | rw [c6b0] | (simp only [i64_w, i32_w]; rw [c6b0]) | skip)
   have H' := Aside0.mk H
   clear H
   go_wp2
   go_meet
   case rel => exact ⟨_, (decide (a2 > 4)), (g3_), H', ⟨g15_⟩, ⟨uf1_ HO1⟩, ⟨uf3_ BK394⟩, ⟨impl_after.calls_q0⟩, ⟨impl_after.calls_q1⟩⟩
 case rest =>
  clear HC4
  try clear p2
  try clear c6
  try clear c6b0
  obtain ⟨kq, x15_3, rfl, HA, HJ3, HO_1, BK394, HK, HB⟩ := hcut
  cases kq with
  | zero => exact absurd HA.out (by simp [impl_after.j0])
  | succ kj3 =>
   have H := HA.out
   clear HA
   simp only [impl_after.j0] at H
   by_cases c7 : x15_3 = true
   ·subst c7
    replace H := ifp_ H
    simp only [Option.some.injEq, Prod.mk.injEq] at H
    obtain ⟨rfl, rfl⟩ := H
    go_wp2
    go_ret2
    exact ⟨_, g4_, g36_, impl_after.calls_q1, impl_after.calls_q0⟩
   ·replace c7 := Bool.eq_false_iff.mpr c7
    subst c7
    replace H := ifn_ H
    have H' := Aside0.mk H
    clear H
    go_wp2
    go_loopg [1, 17] kj3 (fun kq v1 v17 w' => ∃ (x1_2 : List (S36)) (x17_2 : Int), v17 = .int .i64 x17_2 ∧ Aside0 (impl_after.l0 kq x1_2 a2 x17_2 l0_0 l0_1 = some (r1, r2)) ∧ Aside0 (kq ≤ kj3) ∧ Aside0 (Kd.R k36 36 w' w0.heap.size (fun k_ => (P1_ k_ ∨ w.heap.size ≤ k_)) v1 x1_2) ∧ Aside0 (w'.heap[gb394]? = some (.cells #[(.slice A0_0 l0_0.length c0_0), (.slice A0_1 l0_1.length c0_1)] 26 (0, 0))) ∧ Aside0 (Kept w w' (fun k_ => P1_ k_)) ∧ Aside0 (Below w0.heap.size w0 w'))
    case atStart => exact ⟨(l1), (0), (g3_), H', ⟨Nat.le_refl _⟩, ⟨uf1_ HO_1⟩, ⟨uf3_ BK394⟩, ⟨impl_after.calls_q0⟩, ⟨impl_after.calls_q1⟩⟩
    case round =>
     clear H'
     try clear p2
     try clear c6
     try clear c6b0
     try clear c7
     try clear p2
     obtain ⟨x1_2, x17_2, rfl, HA, HK2, HO_1, BK394, HK, HB⟩ := hrel
     cases gk with
     | zero => exact absurd HA.out (by simp [impl_after.l0])
     | succ k2 =>
      have H := HA.out
      clear HA
      simp only [impl_after.l0] at H
      by_cases c8 : x17_2 < a2
      ·rw [if_pos c8] at H
       have c8b0 := decide_eq_true c8
       clear c8
       replace H := Option.bind_eq_some_iff.mp H
       obtain ⟨⟨t395, t398⟩, A90, H⟩ := H
       replace H : (if t398 = true then (impl_after.l0 k2 t395 a2 (wrap64 (x17_2 + 1)) l0_0 l0_1) else (some (([] : List (S36)), false))) = some (r1, r2) := H
       have A9 := Aside0.mk A90
       clear A90
       by_cases c10 : t398 = true
       ·subst c10
        replace H := ifp_ H
        have H' := Aside0.mk H
        clear H
        obtain ⟨hcz11_0, hcz11_1, hfz11_0, hfz11_1⟩ := blk2_ BK394
        obtain ⟨Ao12, co12, eo12⟩ := Kd.R_slice HO_1.out
        subst eo12
        go_wp2_with (first | ((with_reducible refine gate_callee (f := 51) rfl ?_); refine goesL_ (some 22) rfl rfl Try.func51 k_ rfl #[.agg #[.slice A0_0 l0_0.length c0_0, .slice A0_1 l0_1.length c0_1], .slice Ao12 x1_2.length co12] rfl (g2_) ?_; (with_reducible refine (impl_leadsTo.calls k2 _ _ l0_0 _ _ l0_1 _ _ x1_2 t395 true _ ?side1 ?side2 ?side3 ?side4 ?side5 ?side6 A9.out).mono ?_); (case side1 => exact Kd.C_kept_now HR0_0.out (impl_after.calls_q0)); (case side2 => exact HC0_0.out); (case side3 => exact Kd.C_kept_now HR0_1.out (impl_after.calls_q0)); (case side4 => exact HC0_1.out); (case side5 => repeat (first | exact (Kd.R_reads' HO_1.out).2.2 | (with_reducible refine Kd.C_alloc ?_ _) | (with_reducible refine Kd.C_drewN ?_ _) | (with_reducible refine Kd.C_drew ?_))); (case side6 => exact (Kd.R_reads' HO_1.out).2.1); rintro e w13 ⟨v396, rfl, ho0, hb⟩; refine ⟨_, rfl, ?_⟩; have HO397 := Aside0.mk (Kd.R_lower (Kd.R_new' (Kd.R_newM (M := fun k_ => (P1_ k_ ∨ w.heap.size ≤ k_)) ho0 (g108_) (fun k_ h_ => .inr h_)) (Kd.R_lt (uf1_ HO_1))) (below_size (impl_after.calls_q1))); replace HO_1 := Aside0.mk (Kd.R_elder' (uf1_ HO_1) (Kd.R_base ho0) hb); replace BK394 := bb_ BK394 hb; replace HK := Aside0.mk (Kept.below (S := (fun k_ => P1_ k_)) (impl_after.calls_q0) hb); replace HB := Aside0.mk (below_step (impl_after.calls_q1) hb); (try clear hb); (try clear hk hi); (try clear ho0)))
        go_roundg k2
        case measure => have := HJ3.out; have := HK2.out; omega
        case rel => exact ⟨(t395), (wrap64 (x17_2 + 1)), (g3_), H', ⟨by have := HJ3.out; have := HK2.out; omega⟩, ⟨by (with_reducible repeat (first | apply Kd.R_alloc | apply Kd.R_drewN | apply Kd.R_drew)); exact Kd.R_mono HO397.out (fun _ hk => hk.1.1)⟩, ⟨uf3_ BK394⟩, ⟨impl_after.calls_q0⟩, ⟨impl_after.calls_q1⟩⟩
       ·replace c10 := Bool.eq_false_iff.mpr c10
        subst c10
        replace H := ifn_ H
        simp only [Option.some.injEq, Prod.mk.injEq] at H
        obtain ⟨rfl, rfl⟩ := H
        obtain ⟨hcz14_0, hcz14_1, hfz14_0, hfz14_1⟩ := blk2_ BK394
        obtain ⟨Ao15, co15, eo15⟩ := Kd.R_slice HO_1.out
        subst eo15
        go_wp2_with (first | ((with_reducible refine gate_callee (f := 51) rfl ?_); refine goesL_ (some 22) rfl rfl Try.func51 k_ rfl #[.agg #[.slice A0_0 l0_0.length c0_0, .slice A0_1 l0_1.length c0_1], .slice Ao15 x1_2.length co15] rfl (g2_) ?_; (with_reducible refine (impl_leadsTo.calls k2 _ _ l0_0 _ _ l0_1 _ _ x1_2 t395 false _ ?side1 ?side2 ?side3 ?side4 ?side5 ?side6 A9.out).mono ?_); (case side1 => exact Kd.C_kept_now HR0_0.out (impl_after.calls_q0)); (case side2 => exact HC0_0.out); (case side3 => exact Kd.C_kept_now HR0_1.out (impl_after.calls_q0)); (case side4 => exact HC0_1.out); (case side5 => repeat (first | exact (Kd.R_reads' HO_1.out).2.2 | (with_reducible refine Kd.C_alloc ?_ _) | (with_reducible refine Kd.C_drewN ?_ _) | (with_reducible refine Kd.C_drew ?_))); (case side6 => exact (Kd.R_reads' HO_1.out).2.1); rintro e w16 ⟨v396, rfl, ho0, hb⟩; refine ⟨_, rfl, ?_⟩; have HO397 := Aside0.mk (Kd.R_lower (Kd.R_new' (Kd.R_newM (M := fun k_ => (P1_ k_ ∨ w.heap.size ≤ k_)) ho0 (g108_) (fun k_ h_ => .inr h_)) (Kd.R_lt (uf1_ HO_1))) (below_size (impl_after.calls_q1))); replace HO_1 := Aside0.mk (Kd.R_elder' (uf1_ HO_1) (Kd.R_base ho0) hb); replace BK394 := bb_ BK394 hb; replace HK := Aside0.mk (Kept.below (S := (fun k_ => P1_ k_)) (impl_after.calls_q0) hb); replace HB := Aside0.mk (below_step (impl_after.calls_q1) hb); (try clear hb); (try clear hk hi); (try clear ho0)))
        go_ret2
        exact ⟨_, g4_, g36_, impl_after.calls_q1, impl_after.calls_q0⟩
      ·rw [if_neg c8] at H
       have c8b0 := decide_eq_false c8
       clear c8
       simp only [Option.some.injEq, Prod.mk.injEq] at H
       obtain ⟨rfl, rfl⟩ := H
       go_wp2
       go_ret2
       exact ⟨_, g4_, uf1_ HO_1, impl_after.calls_q1, impl_after.calls_q0⟩
def impl_nonePaid.l0 : Nat → List (S36) → Int → Int → Option ((List (S36)))
 | 0, _, _, _ => none
 | k + 1, x3, x7, x8 => if x8 < x7 then ((impl_whole.f 0).bind fun bt489 => (if x3.length < 8796093022208 then (impl_nonePaid.l0 k (x3 ++ [(⟨bt489.1, bt489.2⟩ : S36)]) x7 (wrap64 (x8 + 1))) else (none))) else (some x3)
def impl_nonePaid.f (k : Nat) (l0_0 : List Int) (l0_1 : List (List Int)) : Option ((List (S36))) := impl_nonePaid.l0 k (([] : List (S36))) (l0_0.length : Int) 0
theorem impl_nonePaid.mq {p : Prop} (h : p := by
 repeat' first
 | (with_reducible exact ih0 _ _ _)
 | (with_reducible exact LeO.refl _)
 | (with_reducible exact LeO.none _)
 | (with_reducible refine LeO.ite ?_ ?_)
 | (with_reducible refine LeO.bind ?_ (fun _ => ?_))
 | exact ih0 _ _ _
 | exact LeO.none _
 | refine LeO.ite ?_ ?_
 | refine LeO.bind ?_ (fun _ => ?_)) : p := h
theorem impl_nonePaid.mono_l : ∀ k, (∀ y0 y1 y2, LeO (impl_nonePaid.l0 k y0 y1 y2) (impl_nonePaid.l0 (k + 1) y0 y1 y2))
 | 0 => fun _ _ _ r h => by simp [impl_nonePaid.l0] at h
 | k + 1 => by
  have ih0 := impl_nonePaid.mono_l k
  ·intro y0 y1 y2
   unfold impl_nonePaid.l0
   exact impl_nonePaid.mq
theorem impl_nonePaid.mono : ∀ a0 a1 k, LeO (impl_nonePaid.f k a0 a1) (impl_nonePaid.f (k + 1) a0 a1) := by
 intro a0 a1 k
 have ih0 := impl_nonePaid.mono_l k
 unfold impl_nonePaid.f
 exact impl_nonePaid.mq
theorem impl_nonePaid.calls_q0 {p : Prop} (h : p := by repeat (first | (with_reducible first | exact HB.out | apply below_alloc | apply pw_below_drewN | apply below_drew1 | refine below_set ?_ GE485.out) | exact HB.out)) : p := h
set_option maxHeartbeats 8000000 in
set_option maxRecDepth 100000 in
theorem impl_nonePaid.calls (k : Nat) (A0_0 : Option Addr) (c0_0 : Nat) (l0_0 : List Int) (A0_1 : Option Addr) (c0_1 : Nat) (l0_1 : List (List Int)) (r : List (S36)) (w : World) (hr0_0 : Kd.C (Kd.int .i64) w A0_0 l0_0.length l0_0) (hc0_0 : l0_0.length ≤ c0_0) (hr0_1 : Kd.C (Kd.slice 3 (Kd.int .i64)) w A0_1 l0_1.length l0_1) (hc0_1 : l0_1.length ≤ c0_1) (h : impl_nonePaid.f k l0_0 l0_1 = some r) :
  Calls Try.prog 67 #[.agg #[.slice A0_0 l0_0.length c0_0, .slice A0_1 l0_1.length c0_1]] w fun e w' => ∃ v0_ : Value, e = .returned (v0_) ∧ Kd.R k36 36 w' w.heap.size (fun _ => True) v0_ r ∧ Below w.heap.size w w' := by
 have hu26 := Try.underlying26
 have HR0_0 := Aside0.mk hr0_0
 have HC0_0 := Aside0.mk hc0_0
 clear hr0_0 hc0_0
 have HR0_1 := Aside0.mk hr0_1
 have HC0_1 := Aside0.mk hc0_1
 clear hr0_1 hc0_1
 have HB := Aside0.mk (Below.refl w.heap.size w)
 have H : (impl_nonePaid.l0 k (([] : List (S36))) (l0_0.length : Int) 0) = some r := h
 clear h
 obtain ⟨y486, hy486⟩ : ∃ y_ : List (S36), y_ = (([] : List (S36))) := ⟨_, rfl⟩
 replace H : (impl_nonePaid.l0 k y486 (l0_0.length : Int) 0) = some r := by first | (rw [hy486]; with_reducible exact H) | (have H2_ := (Option.bind_some _ _).symm.trans H; rw [hy486]; with_reducible exact H2_) | (have H2_ := (Option.bind_some _ _).symm.trans H; with_reducible exact H2_) | with_reducible exact H | (rw [hy486]; exact H) | exact H
 have Ny486 := Aside0.mk hy486
 clear hy486
 have H' := Aside0.mk H
 clear H
 go_enter Try.func67, Try.ntmps67
 go_wp2_with (first | ((with_reducible refine gate_dst (N := 1) rfl ?_); refine bx_ (N := 1) #[.slice A0_0 l0_0.length c0_0, .slice A0_1 l0_1.length c0_1] 26 ?_; intro gb485 hg w2 hbox hb; have BK485 := Aside0.mk (hbox); have GW485 := Aside0.mk ((by rw [hg]; exact (below_size (impl_nonePaid.calls_q0)) : w.heap.size ≤ gb485)); have GE485 := Aside0.mk ((by rw [hg]; exact (below_size (impl_nonePaid.calls_q0)) : w.heap.size ≤ gb485)); replace HB := Aside0.mk (below_step (impl_nonePaid.calls_q0) hb); clear hb hbox hg) | ((with_reducible refine gate_dst (N := 4) rfl ?_); refine Kd.R_lit k36 _ 36 ?hg (N := 4) ?hd (xs := ([] : List (S36))) (inner := []) (ok := fun _ => True) (okp := fun _ => True) ?hr ?hp (fun _ hk => hk) trivial (Below.refl _ _) (Nat.le_refl _) (by simp) ?_; (case hd => rfl); (case hg => rfl); (case hr => first | (go_simp; done) | (go_simp; rfl)); (case hp => exact (Reps.none _ _)); intro v487 w3 ho4 hb hg_ hnew_; clear hg_ hnew_; (first | rw [← Ny486.out] at ho4 | (simp only [Int.reduceToNat] at ho4; rw [← Ny486.out] at ho4)); have HO488 := Aside0.mk (Kd.R_lower ho4 (below_size (impl_nonePaid.calls_q0))); replace BK485 := bb_ BK485 hb; replace HB := Aside0.mk (below_step (impl_nonePaid.calls_q0) hb); clear hb ho4; obtain ⟨hcz5_0, hcz5_1, hfz5_0, hfz5_1⟩ := blk2_ BK485))
 go_loopg [3, 8] k (fun kq v3 v8 w' => ∃ (x3_1 : List (S36)) (x8_1 : Int), v8 = .int .i64 x8_1 ∧ Aside0 (impl_nonePaid.l0 kq x3_1 (l0_0.length : Int) x8_1 = some r) ∧ Aside0 (kq ≤ k) ∧ Aside0 (Kd.R k36 36 w' w.heap.size (fun _ => True) v3 x3_1) ∧ Aside0 (w'.heap[gb485]? = some (.cells #[(.slice A0_0 l0_0.length c0_0), (.slice A0_1 l0_1.length c0_1)] 26 (0, 0))) ∧ Aside0 (Below w.heap.size w w'))
 case atStart => exact ⟨(y486), (0), (g3_), H', ⟨Nat.le_refl _⟩, ⟨uf1_ HO488⟩, ⟨uf3_ BK485⟩, ⟨impl_nonePaid.calls_q0⟩⟩
 case round =>
  clear H'
  try clear p2
  try clear hcz5_0
  try clear hcz5_1
  try clear hfz5_0
  try clear hfz5_1
  obtain ⟨x3_1, x8_1, rfl, HA, HK1, HO_3, BK485, HB⟩ := hrel
  cases gk with
  | zero => exact absurd HA.out (by simp [impl_nonePaid.l0])
  | succ k1 =>
   have H := HA.out
   clear HA
   simp only [impl_nonePaid.l0] at H
   by_cases c6 : x8_1 < (l0_0.length : Int)
   ·rw [if_pos c6] at H
    have c6b0 := decide_eq_true c6
    clear c6
    replace H := Option.bind_eq_some_iff.mp H
    obtain ⟨⟨t489, t490⟩, A70, H⟩ := H
    replace H : (if x3_1.length < 8796093022208 then (impl_nonePaid.l0 k1 (x3_1 ++ [(⟨t489, t490⟩ : S36)]) (l0_0.length : Int) (wrap64 (x8_1 + 1))) else (none)) = some r := H
    have A7 := Aside0.mk A70
    clear A70
    obtain ⟨c8, H⟩ := pos_ H
    have LMc8 := Aside0.mk c8
    clear c8
    obtain ⟨y491, hy491⟩ : ∃ y_ : List (S36), y_ = (x3_1 ++ [(⟨t489, t490⟩ : S36)]) := ⟨_, rfl⟩
    replace H : (impl_nonePaid.l0 k1 y491 (l0_0.length : Int) (wrap64 (x8_1 + 1))) = some r := by first | (rw [hy491]; with_reducible exact H) | (have H2_ := (Option.bind_some _ _).symm.trans H; rw [hy491]; with_reducible exact H2_) | (have H2_ := (Option.bind_some _ _).symm.trans H; with_reducible exact H2_) | with_reducible exact H | (rw [hy491]; exact H) | exact H
    have Ny491 := Aside0.mk hy491
    clear hy491
    have H' := Aside0.mk H
    clear H
    go_wp2_with (first | ((with_reducible refine gate_callee (f := 69) rfl ?_); refine goesL_ (some 11) rfl rfl Try.func69 k_ rfl #[.int .i64 0] rfl (g2_) ?_; (with_reducible refine (impl_whole.calls 0 t489 t490 _ A7.out).mono ?_); rintro e w9 ⟨rfl, hb⟩; refine ⟨_, rfl, ?_⟩; replace HO_3 := Aside0.mk (Kd.R_below (uf1_ HO_3) hb); replace BK485 := bb_ BK485 hb; replace HB := Aside0.mk (below_step (impl_nonePaid.calls_q0) hb); (try clear hb); (try clear hk hi)) | ((with_reducible refine gate_builtin (b := .append) (xs := #[.tmp 10, .tmp 12]) rfl ?_); at_builtin; refine Kd.R_append k36 (w0 := w) w.heap.size rfl (.tmp 10) (.tmp 12) 27 36 (.agg #[(.int .i64 0), (.int .i64 0)]) 16 rfl Try.underlying27 info36 rfl (by decide) (by omega) u3 x3_1 (⟨t489, t490⟩ : S36) [.int .i64 t489, .int .i64 t490] (fun _ => True) (fun _ => False) rfl rfl ?aP (fun _ hk => hk.elim) ?aF ?aO ?aB ?aS ?aL ?_; (case aP => exact k36_mkM _ _ _ (⟨t489, t490⟩ : S36)); (case aB => exact (impl_nonePaid.calls_q0)); (case aF => exact (fun _ _ => trivial)); (case aO => exact (uf1_ HO_3)); (case aS => exact (below_size (impl_nonePaid.calls_q0))); (case aL => have := LMc8.out; omega); intro v492 w10 ho hb hg hat; rw [← Ny491.out] at ho; replace BK485 := Aside0.mk (blk_grown (g := gb485) (o := .cells #[.slice A0_0 l0_0.length c0_0, .slice A0_1 l0_1.length c0_1] 26 (0, 0)) (uf3_ BK485) hg (Kd.R_ne HO_3.out BK485.out (by decide))); replace HB := Aside0.mk (hb); have HO493 := Aside0.mk (ho); clear HO_3; clear ho hb hg hat))
    go_roundg k1
    case measure => have := HK1.out; omega
    case rel => exact ⟨(y491), (wrap64 (x8_1 + 1)), (g3_), H', ⟨g12_⟩, ⟨uf1_ HO493⟩, ⟨uf3_ BK485⟩, ⟨impl_nonePaid.calls_q0⟩⟩
   ·rw [if_neg c6] at H
    have c6b0 := decide_eq_false c6
    clear c6
    obtain rfl := Option.some.inj H
    go_wp2
    go_ret
    exact ⟨_, g4_, uf1_ HO_3, impl_nonePaid.calls_q0⟩
def impl_FromBelow.f (k : Nat) (l0_0 : List Int) (l0_1 : List (List Int)) (a1 : Int) : Option ((List (S36)) × Bool) := (impl_isBook.f k l0_0 l0_1).bind fun t495 => (if t495 = true then ((impl_nonePaid.f k l0_0 l0_1).bind fun t496 => ((impl_after.f k l0_0 l0_1 t496 a1).bind fun bt499 => (some (bt499.1, bt499.2)))) else (some (([] : List (S36)), false)))
theorem impl_FromBelow.mq {p : Prop} (h : p := by
 repeat' first
 | (with_reducible exact impl_after.mono _ _ _ _ _)
 | (with_reducible exact impl_isBook.mono _ _ _)
 | (with_reducible exact impl_nonePaid.mono _ _ _)
 | (with_reducible exact LeO.refl _)
 | (with_reducible exact LeO.none _)
 | (with_reducible refine LeO.ite ?_ ?_)
 | (with_reducible refine LeO.bind ?_ (fun _ => ?_))
 | exact impl_after.mono _ _ _ _ _
 | exact impl_isBook.mono _ _ _
 | exact impl_nonePaid.mono _ _ _
 | exact LeO.none _
 | refine LeO.ite ?_ ?_
 | refine LeO.bind ?_ (fun _ => ?_)) : p := h
theorem impl_FromBelow.mono : ∀ a0 a1 a2 k, LeO (impl_FromBelow.f k a0 a1 a2) (impl_FromBelow.f (k + 1) a0 a1 a2) := by
 intro a0 a1 a2 k
 unfold impl_FromBelow.f
 exact impl_FromBelow.mq
def impl_FromBelow.T3 : Bool × List (List Nat × List Nat) := (true, [([], []), ([], []), ([1], [1]), ([], []), ([0, 2, 3, 2], [0, 2, 3]), ([4], [4]), ([4], [4]), ([5, 4, 0, 1, 2, 3, 4, 5, 6], [5]), ([6, 7, 0, 1, 2, 3, 4, 5, 6, 7], [6])])
def impl_FromBelow.B3 : List Nat := [0, 0, 2, 0, 15, 31, 31, 127, 255]
theorem impl_FromBelow.tab3 : rtab .any (opsOf Try.f44 3) = impl_FromBelow.T3 := by kernel_rfl
theorem impl_FromBelow.bits3 : waitsOk impl_FromBelow.T3.2 impl_FromBelow.B3 = true := by kernel_rfl
theorem impl_FromBelow.calls_q0 {p : Prop} (h : p := by repeat (first | (with_reducible first | exact HB.out | apply below_alloc | apply pw_below_drewN | apply below_drew1 | refine below_set ?_ GE494.out) | exact HB.out)) : p := h
set_option maxHeartbeats 8000000 in
set_option maxRecDepth 100000 in
theorem impl_FromBelow.calls (k : Nat) (A0_0 : Option Addr) (c0_0 : Nat) (l0_0 : List Int) (A0_1 : Option Addr) (c0_1 : Nat) (l0_1 : List (List Int)) (a1 : Int) (r1 : List (S36)) (r2 : Bool) (w : World) (hr0_0 : Kd.C (Kd.int .i64) w A0_0 l0_0.length l0_0) (hc0_0 : l0_0.length ≤ c0_0) (hr0_1 : Kd.C (Kd.slice 3 (Kd.int .i64)) w A0_1 l0_1.length l0_1) (hc0_1 : l0_1.length ≤ c0_1) (h : impl_FromBelow.f k l0_0 l0_1 a1 = some (r1, r2)) :
  Calls Try.prog 44 #[.agg #[.slice A0_0 l0_0.length c0_0, .slice A0_1 l0_1.length c0_1], .int .i64 a1] w fun e w' => ∃ v0_ : Value, e = .returned (.tuple #[v0_, .bool r2]) ∧ Kd.R k36 36 w' w.heap.size (fun _ => True) v0_ r1 ∧ Below w.heap.size w w' := by
 have hu26 := Try.underlying26
 have HR0_0 := Aside0.mk hr0_0
 have HC0_0 := Aside0.mk hc0_0
 clear hr0_0 hc0_0
 have HR0_1 := Aside0.mk hr0_1
 have HC0_1 := Aside0.mk hc0_1
 clear hr0_1 hc0_1
 have HB := Aside0.mk (Below.refl w.heap.size w)
 have H : ((impl_isBook.f k l0_0 l0_1).bind fun t495 => (if t495 = true then ((impl_nonePaid.f k l0_0 l0_1).bind fun t496 => ((impl_after.f k l0_0 l0_1 t496 a1).bind fun bt499 => (some (bt499.1, bt499.2)))) else (some (([] : List (S36)), false)))) = some (r1, r2) := h
 clear h
 obtain ⟨t495, A3, H⟩ := bind_ H
 by_cases c4 : t495 = true
 ·subst c4
  replace H := ifp_ H
  obtain ⟨t496, A5, H⟩ := bind_ H
  replace H := Option.bind_eq_some_iff.mp H
  obtain ⟨⟨t499, t502⟩, A60, H⟩ := H
  replace H : (some (t499, t502)) = some (r1, r2) := H
  have A6 := Aside0.mk A60
  clear A60
  simp only [Option.some.injEq, Prod.mk.injEq] at H
  obtain ⟨rfl, rfl⟩ := H
  go_enter Try.func44, Try.ntmps44
  try go_wp2_with (first | ((with_reducible refine gate_dst (N := 2) rfl ?_); refine bx_ (N := 2) #[.slice A0_0 l0_0.length c0_0, .slice A0_1 l0_1.length c0_1] 26 ?_; intro gb494 hg w7 hbox hb; have BK494 := Aside0.mk (hbox); have GW494 := Aside0.mk ((g71_ : w.heap.size ≤ gb494)); have GE494 := Aside0.mk ((g71_ : w.heap.size ≤ gb494)); replace HB := Aside0.mk (below_step (impl_FromBelow.calls_q0) hb); clear hb hbox hg; obtain ⟨hcz8_0, hcz8_1, hfz8_0, hfz8_1⟩ := blk2_ BK494) | ((with_reducible refine gate_callee (f := 65) rfl ?_); refine goesL_ (some 7) rfl rfl Try.func65 k_ rfl #[.agg #[.slice A0_0 l0_0.length c0_0, .slice A0_1 l0_1.length c0_1]] rfl (g2_) ?_; (with_reducible refine (impl_isBook.calls k _ _ l0_0 _ _ l0_1 true _ ?side1 ?side2 ?side3 ?side4 A3.out).mono ?_); (case side1 => exact uf0_ HR0_0); (case side2 => exact HC0_0.out); (case side3 => exact uf0_ HR0_1); (case side4 => exact HC0_1.out); rintro e w9 ⟨rfl, hb⟩; refine ⟨_, rfl, ?_⟩; replace BK494 := bb_ BK494 hb; replace HB := Aside0.mk (below_step (impl_FromBelow.calls_q0) hb); (try clear hb); (try clear hk hi)))
  replace BK494 := Aside0.mk (blk_drew BK494.out)
  replace HB := Aside0.mk (below_drew1 HB.out)
  refine start_ (n := 9) (S := fun w' => w'.cell? ⟨gb494, 0, none⟩ = some (.slice A0_0 l0_0.length c0_0) ∧ w'.cell? ⟨gb494, 1, none⟩ = some (.slice A0_1 l0_1.length c0_1)) (ds := []) (tl_ 9 0) (g0_) rfl (g0_) ⟨(blk_cell BK494.out 0).trans rfl, (blk_cell BK494.out 1).trans rfl⟩ (fun hHeld => ?_); refine with_tabW impl_FromBelow.tab3 impl_FromBelow.bits3 (fun HT_ HW_ => ?_)
  generalize w9.drew = w10 at BK494 HB hHeld ⊢
  refine pw_ 3 12 (tl_ 9 8) rfl rfl ?_
  refine tk4_ 0 9 (tl_ 9 9) rfl rfl hHeld ?_
  refine tk4_ 1 10 (tl_ 9 11) rfl rfl hHeld ?_
  refine one_ (i := 2) (N := some 11) (tl_ 9 15) rfl rfl (one_of HT_.out (g0_)) (by decide) (fun K hK => ?_)
  refine goes_ Try.func67 (g0_) rfl #[.agg #[.slice A0_0 l0_0.length c0_0, .slice A0_1 l0_1.length c0_1]] (by rfl) rfl rfl (g2_) ?_
  with_reducible refine (impl_nonePaid.calls k _ _ l0_0 _ _ l0_1 t496 _ ?side1 ?side2 ?side3 ?side4 A5.out).mono ?_
  (case side1 => exact uf0_ HR0_0)
  (case side2 => exact HC0_0.out)
  (case side3 => exact uf0_ HR0_1)
  (case side4 => exact HC0_1.out)
  rintro e w11 ⟨v497, rfl, ho0, hb⟩
  refine ⟨_, rfl, ?_⟩
  have HO498 := Aside0.mk (Kd.R_lower ho0 (below_size (impl_FromBelow.calls_q0)))
  replace BK494 := bb_ BK494 hb
  replace HB := Aside0.mk (below_step (impl_FromBelow.calls_q0) hb)
  (try clear hb)
  (try clear hk hi)
  (try clear ho0)
  obtain ⟨Ao12, co12, eo12⟩ := Kd.R_slice HO498.out
  (first | subst eo12 | (injection eo12 with f1_ f2_ f3_; have f4_ := f1_.symm; have f5_ := f3_.symm; clear f1_ f2_ f3_; subst f4_; subst f5_))
  refine hK.out _ _ ⟨(blk_cell BK494.out 0).trans rfl, (blk_cell BK494.out 1).trans rfl⟩ (fun hHeld => ?_)
  clear hK K
  refine nm_ ?_
  refine one_ (i := 4) (N := some 13) (tl_ 9 31) rfl rfl (one_of HT_.out (g0_)) (by decide) (fun K hK => ?_)
  refine goes_ Try.func66 (g0_) rfl #[.agg #[.slice A0_0 l0_0.length c0_0, .slice A0_1 l0_1.length c0_1], .slice Ao12 t496.length co12, .int .i64 a1] (by rfl) rfl rfl (g2_) ?_
  with_reducible refine (impl_after.calls k _ _ l0_0 _ _ l0_1 (fun k_ => some k_ = (.slice Ao12 t496.length co12 : Value).ownBlock) (.slice Ao12 t496.length co12) t496 a1 t499 t502 w _ ?side1 ?side2 ?side3 ?side4 ?side5 ?side6 A6.out).mono ?_
  (case side1 => exact impl_FromBelow.calls_q0)
  (case side2 => exact Kd.C_kept_came (Kd.heap_int .i64) HR0_0.out (impl_FromBelow.calls_q0) (fun k_ hs_ => (fun e_ => Kd.R_base HO498.out k_ e_.symm) hs_))
  (case side3 => exact HC0_0.out)
  (case side4 => exact Kd.C_kept_came (Kd.heap_slice 3 (Kd.heap_int .i64)) HR0_1.out (impl_FromBelow.calls_q0) (fun k_ hs_ => (fun e_ => Kd.R_base HO498.out k_ e_.symm) hs_))
  (case side5 => exact HC0_1.out)
  (case side6 => exact Kd.R_tight rfl HO498.out)
  rintro e w13 ⟨v500, rfl, ho0, hb, hkp⟩
  refine ⟨_, rfl, ?_⟩
  replace BK494 := Aside0.mk (blk_kept (uf3_ BK494) hkp (fun hs_ => (fun e_ => (Kd.R_ne HO498.out BK494.out (by decide)) e_) hs_))
  have HO501 := Aside0.mk (Kd.R_mono (ok' := fun k_ => True) ho0 (fun k_ hk_ => trivial))
  replace HB := Aside0.mk (hb)
  clear HO498
  (try clear hb)
  (try clear hkp)
  (try clear ho0)
  refine hK.out _ _ ⟨(blk_cell BK494.out 0).trans rfl, (blk_cell BK494.out 1).trans rfl⟩ (fun hHeld => ?_)
  clear hK K
  refine nm_ ?_
  refine pw_ 5 14 (tl_ 9 63) rfl rfl ?_
  refine pw_ 6 15 (tl_ 9 127) rfl rfl ?_
  refine pw_ 7 4 (tl_ 9 255) rfl rfl ?_
  refine pw_ 8 5 (tl_ 9 511) rfl rfl ?_
  refine done_ (done_of HT_.out (g0_)) ?_
  try go_wp2
  go_ret2
  exact ⟨_, g4_, uf1_ HO501, impl_FromBelow.calls_q0⟩
 ·replace c4 := Bool.eq_false_iff.mpr c4
  subst c4
  replace H := ifn_ H
  simp only [Option.some.injEq, Prod.mk.injEq] at H
  obtain ⟨rfl, rfl⟩ := H
  go_enter Try.func44, Try.ntmps44
  go_wp2_with (first | ((with_reducible refine gate_dst (N := 2) rfl ?_); refine bx_ (N := 2) #[.slice A0_0 l0_0.length c0_0, .slice A0_1 l0_1.length c0_1] 26 ?_; intro gb494 hg w14 hbox hb; have BK494 := Aside0.mk (hbox); have GW494 := Aside0.mk ((g71_ : w.heap.size ≤ gb494)); have GE494 := Aside0.mk ((g71_ : w.heap.size ≤ gb494)); replace HB := Aside0.mk (below_step (impl_FromBelow.calls_q0) hb); clear hb hbox hg; obtain ⟨hcz15_0, hcz15_1, hfz15_0, hfz15_1⟩ := blk2_ BK494) | ((with_reducible refine gate_callee (f := 65) rfl ?_); refine goesL_ (some 7) rfl rfl Try.func65 k_ rfl #[.agg #[.slice A0_0 l0_0.length c0_0, .slice A0_1 l0_1.length c0_1]] rfl (g2_) ?_; (with_reducible refine (impl_isBook.calls k _ _ l0_0 _ _ l0_1 false _ ?side1 ?side2 ?side3 ?side4 A3.out).mono ?_); (case side1 => exact uf0_ HR0_0); (case side2 => exact HC0_0.out); (case side3 => exact uf0_ HR0_1); (case side4 => exact HC0_1.out); rintro e w16 ⟨rfl, hb⟩; refine ⟨_, rfl, ?_⟩; replace BK494 := bb_ BK494 hb; replace HB := Aside0.mk (below_step (impl_FromBelow.calls_q0) hb); (try clear hb); (try clear hk hi)))
  go_ret2
  exact ⟨_, g4_, g36_, impl_FromBelow.calls_q0⟩
end Go.Proofs.Ytcjmpjiclnfjmaa.PU
