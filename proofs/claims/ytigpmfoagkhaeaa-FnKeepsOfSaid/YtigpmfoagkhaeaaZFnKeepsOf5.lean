/- FnKeepsOf: for every input the law holds. No condition. -/
import Derived.Test.YtigpmfoagkhaeaaZFnKeepsOf1
import Derived.Test.YtigpmfoagkhaeaaZFnKeepsOf2
import Derived.Test.YtigpmfoagkhaeaaZFnKeepsOf3
import Derived.Test.YtigpmfoagkhaeaaZFnKeepsOf4
import Derived.Below
import Derived.Deep.Draws
import Derived.Deep.AppendLies
import Derived.Maps.AppendAt
import Derived.OwnWalk
import Derived.Laws.BytesArg
import Derived.Laws.MakeOwn
import Derived.Laws.OwnMore
import Derived.Deep.OwnRows
import Derived.Tactics
import Derived.Lib.ConvBytes
import Derived.Laws.Slices
import Derived.WalkKit
import Derived.KernelRfl
import Derived.RowKit3
import Derived.Deep.LoopGhost
import Derived.Deep.QuietTactic
import Derived.BigQuiet
import Derived.WideLaws
import Derived.Deep.DeepCutAuto
import Derived.Deep.CutBlock
import Derived.Deep.RegionHeld3
import Derived.Laws.Rows
import Derived.Lib.AppendStr
import Derived.ArgAppend
import Derived.Laws.IdiomCopy
import Derived.RowKit
import Derived.OrdersHeld
import Derived.Laws.BitsLemmas
import Derived.Laws.StructEq
import Derived.Test.YtigpmfoagkhaeaaProg
namespace Go.Proofs.Ytigpmfoagkhaeaa.PU
open Go.RowKit Go.Proofs.YtigpmfoagkhaeaaW.PrintWords Go.Proofs.YtigpmfoagkhaeaaW.PrintLast Go.Proofs.YtigpmfoagkhaeaaW.PrintMore Go.Proofs.Ytigpmfoagkhaeaa.Qd
attribute [local go_sem] max2_int min2_int max_two min_two max_three min_three max_four min_four
set_option linter.unusedVariables false
set_option linter.unusedSimpArgs false
mutual
def spec_GetsOf.l0 : Nat → List (S36) → List (S36) → List Int → Int → List Int → List (List Int) → Option ((List (S36)) × Bool)
 | 0, _, _, _, _, _, _ => none
 | k + 1, x1, x6, x7, x8, x600000, x600001 => if x8 < (x1.length : Int) then (if 0 ≤ x8 then (if x8 < (x600000.length : Int) then (spec_GetsOf.l1 k x1 x6 x7 x8 0 x600000 x600001 (rd x600000 x8) 1) else (none)) else (none)) else (some (x6, true))
def spec_GetsOf.l1 : Nat → List (S36) → List (S36) → List Int → Int → Int → List Int → List (List Int) → Int → Int → Option ((List (S36)) × Bool)
 | 0, _, _, _, _, _, _, _, _, _ => none
 | k + 1, x1, x6, x7, x8, x10, x600000, x600001, x609000, x609001 => if x10 < (x1.length : Int) then (if 0 ≤ x10 then (if x10 < (x7.length : Int) then (if (rd x7 x10) = 0 then (spec_GetsOf.l1 k x1 x6 x7 x8 (wrap64 (x10 + 1)) x600000 x600001 x609000 x609001) else (if x10 < (x600001.length : Int) then (if 0 ≤ x8 then (if x8 < ((rd_L2 x600001 x10).length : Int) then ((spec_FracOf.f k (rd (rd_L2 x600001 x10) x8) (rd x7 x10)).bind fun bt616 => ((spec_TimesOf.f k ((rd_T36 x1 x10).f0) ((rd_T36 x1 x10).f1) bt616.1 bt616.2.1).bind fun bt621 => ((spec_PlusOf.f k x609000 x609001 bt621.1 bt621.2.1).bind fun bt625 => (if bt621.2.2 = true then (if bt625.2.2 = true then (spec_GetsOf.l1 k x1 x6 x7 x8 (wrap64 (x10 + 1)) x600000 x600001 bt625.1 bt625.2.1) else (some ((([] : List (S36))), false))) else (some ((([] : List (S36))), false)))))) else (none)) else (none)) else (none))) else (none)) else (none)) else (if x6.length < 8796093022208 then (spec_GetsOf.l0 k x1 (x6 ++ [(⟨x609000, x609001⟩ : S36)]) x7 (wrap64 (x8 + 1)) x600000 x600001) else (none))
end
def spec_GetsOf.f (k : Nat) (l0_0 : List Int) (l0_1 : List (List Int)) (l1 : List (S36)) : Option ((List (S36)) × Bool) := (some (([] : List (S36)) : List (S36))).bind fun y600 => ((spec_PaysOk.f k l0_0 l0_1 l1).bind fun t603 => (if t603 = true then ((spec_OwesOf.f k l0_0 l0_1).bind fun t604 => (spec_GetsOf.l0 k l1 y600 t604 0 l0_0 l0_1)) else (some (y600, false))))
theorem spec_GetsOf.mq {p : Prop} (h : p := by
 repeat' first
 | (with_reducible exact ih0 _ _ _ _ _ _)
 | (with_reducible exact ih1 _ _ _ _ _ _ _ _ _)
 | (with_reducible exact spec_FracOf.mono _ _ _)
 | (with_reducible exact spec_OwesOf.mono _ _ _)
 | (with_reducible exact spec_PaysOk.mono _ _ _ _)
 | (with_reducible exact spec_PlusOf.mono _ _ _ _ _)
 | (with_reducible exact spec_TimesOf.mono _ _ _ _ _)
 | (with_reducible exact LeO.refl _)
 | (with_reducible exact LeO.none _)
 | (with_reducible refine LeO.ite ?_ ?_)
 | (with_reducible refine LeO.bind ?_ (fun _ => ?_))
 | exact ih0 _ _ _ _ _ _
 | exact ih1 _ _ _ _ _ _ _ _ _
 | exact spec_FracOf.mono _ _ _
 | exact spec_OwesOf.mono _ _ _
 | exact spec_PaysOk.mono _ _ _ _
 | exact spec_PlusOf.mono _ _ _ _ _
 | exact spec_TimesOf.mono _ _ _ _ _
 | exact LeO.none _
 | refine LeO.ite ?_ ?_
 | refine LeO.bind ?_ (fun _ => ?_)) : p := h
theorem spec_GetsOf.mono_l : ∀ k, (∀ y0 y1 y2 y3 y4 y5, LeO (spec_GetsOf.l0 k y0 y1 y2 y3 y4 y5) (spec_GetsOf.l0 (k + 1) y0 y1 y2 y3 y4 y5)) ∧ (∀ y0 y1 y2 y3 y4 y5 y6 y7 y8, LeO (spec_GetsOf.l1 k y0 y1 y2 y3 y4 y5 y6 y7 y8) (spec_GetsOf.l1 (k + 1) y0 y1 y2 y3 y4 y5 y6 y7 y8))
 | 0 => ⟨fun _ _ _ _ _ _ r h => by simp [spec_GetsOf.l0] at h, fun _ _ _ _ _ _ _ _ _ r h => by simp [spec_GetsOf.l1] at h⟩
 | k + 1 => by
  obtain ⟨ih0, ih1⟩ := spec_GetsOf.mono_l k
  refine ⟨?_, ?_⟩
  ·intro y0 y1 y2 y3 y4 y5
   unfold spec_GetsOf.l0
   exact spec_GetsOf.mq
  ·intro y0 y1 y2 y3 y4 y5 y6 y7 y8
   unfold spec_GetsOf.l1
   exact spec_GetsOf.mq
theorem spec_GetsOf.mono : ∀ a0 a1 a2 k, LeO (spec_GetsOf.f k a0 a1 a2) (spec_GetsOf.f (k + 1) a0 a1 a2) := by
 intro a0 a1 a2 k
 obtain ⟨ih0, ih1⟩ := spec_GetsOf.mono_l k
 unfold spec_GetsOf.f
 exact spec_GetsOf.mq
def spec_GetsOf.T13 : Bool × List (List Nat × List Nat) := (true, [([], []), ([0], [0]), ([], []), ([1, 2], [1, 2]), ([3], [3]), ([], []), ([4, 5], [4, 5]), ([6], [6]), ([], []), ([], []), ([8, 9], [8, 9]), ([10], [10]), ([7, 11], [7, 11]), ([12], [12]), ([13], [13]), ([13], [13]), ([], []), ([16, 14, 12, 0, 1, 2, 3, 4, 5, 6, 7, 8, 9, 10, 11, 12, 13, 14, 16], [14, 16]), ([15, 17, 0, 1, 2, 3, 4, 5, 6, 7, 8, 9, 10, 11, 12, 13, 14, 15, 16, 17], [15])])
def spec_GetsOf.B13 : List Nat := [0, 1, 0, 7, 15, 0, 63, 127, 0, 0, 768, 1792, 4095, 8191, 16383, 16383, 0, 98303, 262143]
theorem spec_GetsOf.tab13 : rtab .any (opsOf Try.f30 13) = spec_GetsOf.T13 := by kernel_rfl
theorem spec_GetsOf.bits13 : waitsOk spec_GetsOf.T13.2 spec_GetsOf.B13 = true := by kernel_rfl
def spec_GetsOf.T14 : Bool × List (List Nat × List Nat) := (true, [([], []), ([], []), ([0, 1], [0, 1]), ([2], [2]), ([], []), ([3, 4], [3, 4]), ([5], [5]), ([6], [6]), ([6], [6]), ([], []), ([9, 7, 5, 0, 1, 2, 3, 4, 5, 6, 7, 9], [7, 9]), ([8, 10, 0, 1, 2, 3, 4, 5, 6, 7, 8, 9, 10], [8])])
def spec_GetsOf.B14 : List Nat := [0, 0, 3, 7, 0, 31, 63, 127, 127, 0, 767, 2047]
theorem spec_GetsOf.tab14 : rtab .any (opsOf Try.f30 14) = spec_GetsOf.T14 := by kernel_rfl
theorem spec_GetsOf.bits14 : waitsOk spec_GetsOf.T14.2 spec_GetsOf.B14 = true := by kernel_rfl
theorem spec_GetsOf.calls_q0 {p : Prop} (h : p := by repeat (first | (with_reducible first | exact HB.out | apply below_alloc | apply pw_below_drewN | apply below_drew1 | refine below_set ?_ GE599.out | refine below_set ?_ GE608.out | refine below_set ?_ GE619.out | refine below_set ?_ GE624.out | refine below_set ?_ GE628.out) | exact HB.out)) : p := h
set_option maxHeartbeats 8000000 in
set_option maxRecDepth 100000 in
theorem spec_GetsOf.calls (k : Nat) (A0_0 : Option Addr) (c0_0 : Nat) (l0_0 : List Int) (A0_1 : Option Addr) (c0_1 : Nat) (l0_1 : List (List Int)) (A1 : Option Addr) (c1 : Nat) (l1 : List (S36)) (r1 : List (S36)) (r2 : Bool) (w : World) (hr0_0 : Kd.C (Kd.int .i64) w A0_0 l0_0.length l0_0) (hc0_0 : l0_0.length ≤ c0_0) (hr0_1 : Kd.C (Kd.slice 3 (Kd.int .i64)) w A0_1 l0_1.length l0_1) (hc0_1 : l0_1.length ≤ c0_1) (hr1 : Kd.C k36 w A1 l1.length l1) (hc1 : l1.length ≤ c1) (h : spec_GetsOf.f k l0_0 l0_1 l1 = some (r1, r2)) :
  Calls Try.prog 30 #[.agg #[.slice A0_0 l0_0.length c0_0, .slice A0_1 l0_1.length c0_1], .slice A1 l1.length c1] w fun e w' => ∃ v0_ : Value, e = .returned (.tuple #[v0_, .bool r2]) ∧ Kd.R k36 36 w' w.heap.size (fun _ => True) v0_ r1 ∧ Below w.heap.size w w' := by
 have hu26 := Try.underlying26
 have hu36 := Try.underlying36
 have HR0_0 := Aside0.mk hr0_0
 have HC0_0 := Aside0.mk hc0_0
 clear hr0_0 hc0_0
 have HR0_1 := Aside0.mk hr0_1
 have HC0_1 := Aside0.mk hc0_1
 clear hr0_1 hc0_1
 have HR1 := Aside0.mk hr1
 have HC1 := Aside0.mk hc1
 clear hr1 hc1
 have HB := Aside0.mk (Below.refl w.heap.size w)
 have H : ((some (([] : List (S36)) : List (S36))).bind fun y600 => ((spec_PaysOk.f k l0_0 l0_1 l1).bind fun t603 => (if t603 = true then ((spec_OwesOf.f k l0_0 l0_1).bind fun t604 => (spec_GetsOf.l0 k l1 y600 t604 0 l0_0 l0_1)) else (some (y600, false))))) = some (r1, r2) := h
 clear h
 obtain ⟨y600, hy600⟩ : ∃ y_ : List (S36), y_ = (([] : List (S36))) := ⟨_, rfl⟩
 replace H : ((spec_PaysOk.f k l0_0 l0_1 l1).bind fun t603 => (if t603 = true then ((spec_OwesOf.f k l0_0 l0_1).bind fun t604 => (spec_GetsOf.l0 k l1 y600 t604 0 l0_0 l0_1)) else (some (y600, false)))) = some (r1, r2) := by first | (rw [hy600]; with_reducible exact H) | (have H2_ := (Option.bind_some _ _).symm.trans H; rw [hy600]; with_reducible exact H2_) | (have H2_ := (Option.bind_some _ _).symm.trans H; with_reducible exact H2_) | with_reducible exact H | (rw [hy600]; exact H) | exact H
 have Ny600 := Aside0.mk hy600
 clear hy600
 obtain ⟨t603, A3, H⟩ := bind_ H
 by_cases c4 : t603 = true
 ·subst c4
  replace H := ifp_ H
  obtain ⟨t604, A5, H⟩ := bind_ H
  have H' := Aside0.mk H
  clear H
  go_enter Try.func30, Try.ntmps30
  go_wp2_with (first | ((with_reducible refine gate_dst (N := 2) rfl ?_); refine bx_ (N := 2) #[.slice A0_0 l0_0.length c0_0, .slice A0_1 l0_1.length c0_1] 26 ?_; intro gb599 hg w6 hbox hb; have BK599 := Aside0.mk (hbox); have GW599 := Aside0.mk ((g6_ : w.heap.size ≤ gb599)); have GE599 := Aside0.mk ((g6_ : w.heap.size ≤ gb599)); replace HB := Aside0.mk (below_step (spec_GetsOf.calls_q0) hb); clear hb hbox hg) | ((with_reducible refine gate_dst (N := 17) rfl ?_); refine Kd.R_lit k36 _ 36 ?hg (N := 17) ?hd (xs := ([] : List (S36))) (inner := []) (ok := fun _ => True) (okp := fun _ => True) ?hr ?hp (fun _ hk => hk) trivial (Below.refl _ _) (Nat.le_refl _) (by simp) ?_; (case hd => rfl); (case hg => rfl); (case hr => first | (go_simp; done) | (go_simp; rfl)); (case hp => exact (Reps.none _ _)); intro v601 w7 ho8 hb hg_ hnew_; clear hg_ hnew_; (first | rw [← Ny600.out] at ho8 | (simp only [Int.reduceToNat] at ho8; rw [← Ny600.out] at ho8)); have HO602 := Aside0.mk (Kd.R_lower ho8 (below_size (spec_GetsOf.calls_q0))); replace BK599 := bb_ BK599 hb; replace HB := Aside0.mk (below_step (spec_GetsOf.calls_q0) hb); clear hb ho8; obtain ⟨hcz9_0, hcz9_1, hfz9_0, hfz9_1⟩ := blk2_ BK599) | ((with_reducible refine gate_callee (f := 21) rfl ?_); refine goesL_ (some 20) rfl rfl Try.func21 k_ rfl #[.agg #[.slice A0_0 l0_0.length c0_0, .slice A0_1 l0_1.length c0_1], .slice A1 l1.length c1] rfl (g2_) ?_; (with_reducible refine (spec_PaysOk.calls k _ _ l0_0 _ _ l0_1 _ _ l1 true _ ?side1 ?side2 ?side3 ?side4 ?side5 ?side6 A3.out).mono ?_); (case side1 => exact uf4_ HR0_0); (case side2 => exact HC0_0.out); (case side3 => exact uf4_ HR0_1); (case side4 => exact HC0_1.out); (case side5 => exact uf4_ HR1); (case side6 => exact HC1.out); rintro e w10 ⟨rfl, hb⟩; refine ⟨_, rfl, ?_⟩; replace HO602 := Aside0.mk (Kd.R_below (uf1_ HO602) hb); replace BK599 := bb_ BK599 hb; replace HB := Aside0.mk (below_step (spec_GetsOf.calls_q0) hb); (try clear hb); (try clear hk hi); obtain ⟨hcz11_0, hcz11_1, hfz11_0, hfz11_1⟩ := blk2_ BK599) | ((with_reducible refine gate_callee (f := 62) rfl ?_); refine goesL_ (some 24) rfl rfl Try.func62 k_ rfl #[.agg #[.slice A0_0 l0_0.length c0_0, .slice A0_1 l0_1.length c0_1]] rfl (g2_) ?_; (with_reducible refine (spec_OwesOf.calls k _ _ l0_0 _ _ l0_1 t604 _ ?side1 ?side2 ?side3 ?side4 A5.out).mono ?_); (case side1 => exact uf4_ HR0_0); (case side2 => exact HC0_0.out); (case side3 => exact uf4_ HR0_1); (case side4 => exact HC0_1.out); rintro e w12 ⟨v605, rfl, ho0, hb⟩; refine ⟨_, rfl, ?_⟩; replace HO602 := Aside0.mk (Kd.R_below (uf1_ HO602) hb); have HO606 := Aside0.mk (Kd.R_lower ho0 (below_size (spec_GetsOf.calls_q0))); replace BK599 := bb_ BK599 hb; replace HB := Aside0.mk (below_step (spec_GetsOf.calls_q0) hb); (try clear hb); (try clear hk hi); (try clear ho0)))
  go_loopg [6, 8] k (fun kq v6 v8 w' => ∃ (x6_1 : List (S36)) (x8_1 : Int), v8 = .int .i64 x8_1 ∧ Aside0 (spec_GetsOf.l0 kq l1 x6_1 t604 x8_1 l0_0 l0_1 = some (r1, r2)) ∧ Aside0 (kq ≤ k) ∧ Aside0 (Kd.R k36 36 w' w.heap.size (fun _ => True) v6 x6_1) ∧ Aside0 (Kd.R (Kd.int .i64) 3 w' w.heap.size (fun _ => True) v605 t604) ∧ Aside0 (w'.heap[gb599]? = some (.cells #[(.slice A0_0 l0_0.length c0_0), (.slice A0_1 l0_1.length c0_1)] 26 (0, 0))) ∧ Aside0 (Below w.heap.size w w'))
  case atStart => exact ⟨(y600), (0), (g3_), H', ⟨Nat.le_refl _⟩, ⟨uf1_ HO602⟩, ⟨uf1_ HO606⟩, ⟨uf0_ BK599⟩, ⟨spec_GetsOf.calls_q0⟩⟩
  case round =>
   clear H'
   try clear c1
   try clear c2
   try clear p2
   try clear c3
   try clear c4
   try clear c6
   try clear hcz11_0
   try clear hcz11_1
   try clear hcz9_0
   try clear hcz9_1
   try clear hfz11_0
   try clear hfz11_1
   try clear hfz9_0
   try clear hfz9_1
   obtain ⟨x6_1, x8_1, rfl, HA, HK1, HO_6, HO_7, BK599, HB⟩ := hrel
   cases gk with
   | zero => exact absurd HA.out (by simp [spec_GetsOf.l0])
   | succ k1 =>
    have H := HA.out
    clear HA
    simp only [spec_GetsOf.l0] at H
    by_cases c13 : x8_1 < (l1.length : Int)
    ·rw [if_pos c13] at H
     have c13b0 := decide_eq_true c13
     clear c13
     obtain ⟨c14, H⟩ := pos_ H
     have c14b0 := decide_eq_true c14
     clear c14
     obtain ⟨c15, H⟩ := pos_ H
     have c15b0 := decide_eq_true c15
     clear c15
     have H' := Aside0.mk H
     clear H
     obtain ⟨hcz16_0, hcz16_1, hfz16_0, hfz16_1⟩ := blk2_ BK599
     have p607 : 0 ≤ (x8_1 : Int) := of_decide_eq_true (g1_)
     have q607 : x8_1 < (l0_0.length : Int) := of_decide_eq_true (g1_)
     obtain ⟨ad607, e607, hx607_0⟩ := Kd.at_int HR0_0.out x8_1 p607 q607
     cases e607
     replace hx607_0 := cl_ HB hx607_0
     replace p607 := eq_true p607
     replace q607 := eq_true q607
     go_wp2_with (first | ((with_reducible refine gate_dst (N := 9) rfl ?_); refine bx_ (N := 9) #[.int .i64 0, .int .i64 0] 36 ?_; intro gb608 hg w17 hbox hb; replace HO_6 := Aside0.mk (Kd.R_below (Kd.R_elderB (uf1_ HO_6) gb608 (Nat.le_of_eq hg.symm)) hb); replace HO_7 := Aside0.mk (Kd.R_below (uf1_ HO_7) hb); have BK608 := Aside0.mk (hbox); have GW608 := Aside0.mk ((g6_ : w.heap.size ≤ gb608)); have GE608 := Aside0.mk ((g6_ : w.heap.size ≤ gb608)); replace HB := Aside0.mk (below_step (spec_GetsOf.calls_q0) hb); have NB599_608 := Aside0.mk ((by rw [hg]; exact Nat.ne_of_lt (blk_lt (g := gb599) (o := .cells #[.slice (some ad607) l0_0.length c0_0, .slice A0_1 l0_1.length c0_1] 26 (0, 0)) (uf0_ BK599)) : gb599 ≠ gb608)); have NB608_599 := Aside0.mk ((by rw [hg]; exact Nat.ne_of_gt (blk_lt (g := gb599) (o := .cells #[.slice (some ad607) l0_0.length c0_0, .slice A0_1 l0_1.length c0_1] 26 (0, 0)) (uf0_ BK599)) : gb608 ≠ gb599)); replace BK599 := bb_ BK599 hb; clear hb hbox hg; have hnb18 := NB608_599.out; have hnc18 := NB599_608.out; obtain ⟨hcz19_0, hcz19_1, hfz19_0, hfz19_1⟩ := blk2_ BK608))
     go_loopg [10] k1 (fun kq v10 w' => ∃ (x10_2 : Int) (x609000_2 : Int) (x609001_2 : Int), v10 = .int .i64 x10_2 ∧ Aside0 (spec_GetsOf.l1 kq l1 x6_1 t604 x8_1 x10_2 l0_0 l0_1 x609000_2 x609001_2 = some (r1, r2)) ∧ Aside0 (kq ≤ k1) ∧ Aside0 (Kd.R k36 36 w' w.heap.size (fun k_ => k_ ≠ gb608) u6 x6_1) ∧ Aside0 (Kd.R (Kd.int .i64) 3 w' w.heap.size (fun _ => True) v605 t604) ∧ Aside0 (w'.heap[gb599]? = some (.cells #[(.slice (some ad607) l0_0.length c0_0), (.slice A0_1 l0_1.length c0_1)] 26 (0, 0))) ∧ Aside0 (w'.heap[gb608]? = some (.cells #[.int .i64 x609000_2, .int .i64 x609001_2] 36 (0, 0))) ∧ Aside0 (Below w.heap.size w w'))
     case atStart => exact ⟨(0), (rd l0_0 x8_1), (1), (g3_), H', ⟨Nat.le_refl _⟩, ⟨by (with_reducible repeat (first | apply Kd.R_alloc | apply Kd.R_drewN | apply Kd.R_drew)); exact Kd.R_mono (Kd.R_far (p := ⟨gb608, 1, none⟩) (Kd.R_far (p := ⟨gb608, 0, none⟩) (Kd.R_mono HO_6.out (fun k_ hk => (⟨hk, hk.2⟩ : _ ∧ k_ ≠ gb608))) (fun _ hk => hk.2) (.int .i64 (rd l0_0 x8_1))) (fun _ hk => hk.2) (.int .i64 1)) (fun _ hk => hk.1.2)⟩, ⟨by (with_reducible repeat (first | apply Kd.R_alloc | apply Kd.R_drewN | apply Kd.R_drew)); exact Kd.R_mono (Kd.R_far (p := ⟨gb608, 1, none⟩) (Kd.R_far (p := ⟨gb608, 0, none⟩) (Kd.R_types HO_7.out BK608.out (by decide)) (fun _ hk => hk.2) (.int .i64 (rd l0_0 x8_1))) (fun _ hk => hk.2) (.int .i64 1)) (fun _ hk => trivial)⟩, ⟨by (with_reducible repeat (first | refine blk_drewN ?_ _ | refine blk_drew ?_ | refine blk_alloc ?_ _)); refine blk_far ?_ NB599_608.out _; (with_reducible repeat (first | refine blk_drewN ?_ _ | refine blk_drew ?_ | refine blk_alloc ?_ _)); refine blk_far ?_ NB599_608.out _; (with_reducible repeat (first | refine blk_drewN ?_ _ | refine blk_drew ?_ | refine blk_alloc ?_ _)); exact BK599.out⟩, ⟨by (with_reducible repeat (first | refine blk_drewN ?_ _ | refine blk_drew ?_ | refine blk_alloc ?_ _)); refine blk_put (cs := #[.int .i64 (rd l0_0 x8_1), .int .i64 0]) ?_ 1 _ rfl; (with_reducible repeat (first | refine blk_drewN ?_ _ | refine blk_drew ?_ | refine blk_alloc ?_ _)); refine blk_put (cs := #[.int .i64 0, .int .i64 0]) ?_ 0 _ rfl; (with_reducible repeat (first | refine blk_drewN ?_ _ | refine blk_drew ?_ | refine blk_alloc ?_ _)); exact BK608.out⟩, ⟨spec_GetsOf.calls_q0⟩⟩
     case round =>
      clear H'
      try clear c1
      try clear c2
      try clear p2
      try clear c3
      try clear c4
      try clear c6
      try clear p6
      try clear q6
      try clear hx6
      try clear c13
      try clear c13b0
      try clear c14
      try clear c14b0
      try clear c15
      try clear c15b0
      try clear c18
      try clear hcz11_0
      try clear hcz11_1
      try clear hcz16_0
      try clear hcz16_1
      try clear hcz19_0
      try clear hcz19_1
      try clear hcz9_0
      try clear hcz9_1
      try clear hfz11_0
      try clear hfz11_1
      try clear hfz16_0
      try clear hfz16_1
      try clear hfz19_0
      try clear hfz19_1
      try clear hfz9_0
      try clear hfz9_1
      try clear hx607_0
      try clear p2
      try clear p607
      try clear q607
      obtain ⟨x10_2, x609000_2, x609001_2, rfl, HA, HK2, HO_6, HO_7, BK599, BK608, HB⟩ := hrel
      cases gk with
      | zero => exact absurd HA.out (by simp [spec_GetsOf.l1])
      | succ k2 =>
       have H := HA.out
       clear HA
       simp only [spec_GetsOf.l1] at H
       by_cases c20 : x10_2 < (l1.length : Int)
       ·rw [if_pos c20] at H
        have c20b0 := decide_eq_true c20
        clear c20
        obtain ⟨c21, H⟩ := pos_ H
        have c21b0 := decide_eq_true c21
        clear c21
        obtain ⟨c22, H⟩ := pos_ H
        have c22b0 := decide_eq_true c22
        clear c22
        by_cases c23 : (rd t604 x10_2) = 0
        ·rw [if_pos c23] at H
         have c23b0 : ((rd t604 x10_2) == 0) = true := beq_iff_eq.mpr c23
         have c23b1 : ((rd t604 x10_2) != 0) = false := bne_eq_false_iff_eq.mpr c23
         clear c23
         have H' := Aside0.mk H
         clear H
         obtain ⟨Ao24, co24, eo24⟩ := Kd.R_slice HO_7.out
         subst eo24
         have p612 : 0 ≤ (x10_2 : Int) := of_decide_eq_true (g1_)
         have q612 : x10_2 < (t604.length : Int) := of_decide_eq_true (g1_)
         obtain ⟨ad612, e612, hx612_0⟩ := Kd.at_int (Kd.R_reads' HO_7.out).2.2 x10_2 p612 q612
         cases e612
         replace p612 := eq_true p612
         replace q612 := eq_true q612
         go_wp2
         go_roundg k2
         case measure => have := HK1.out; have := HK2.out; omega
         case rel => exact ⟨(wrap64 (x10_2 + 1)), (x609000_2), (x609001_2), (g3_), H', ⟨g34_⟩, ⟨uf1_ HO_6⟩, ⟨uf1_ HO_7⟩, ⟨uf0_ BK599⟩, ⟨uf0_ BK608⟩, ⟨spec_GetsOf.calls_q0⟩⟩
        ·rw [if_neg c23] at H
         have c23b0 : ((rd t604 x10_2) == 0) = false := beq_eq_false_iff_ne.mpr c23
         have c23b1 : ((rd t604 x10_2) != 0) = true := bne_iff_ne.mpr c23
         obtain ⟨c25, H⟩ := pos_ H
         have c25b0 := decide_eq_true c25
         clear c25
         obtain ⟨c26, H⟩ := pos_ H
         have c26b0 := decide_eq_true c26
         clear c26
         obtain ⟨c27, H⟩ := pos_ H
         have c27b0 := decide_eq_true c27
         clear c27
         replace H := Option.bind_eq_some_iff.mp H
         obtain ⟨⟨t616, t617, t618⟩, A280, H⟩ := H
         replace H : ((spec_TimesOf.f k2 ((rd_T36 l1 x10_2).f0) ((rd_T36 l1 x10_2).f1) t616 t617).bind fun bt621 => ((spec_PlusOf.f k2 x609000_2 x609001_2 bt621.1 bt621.2.1).bind fun bt625 => (if bt621.2.2 = true then (if bt625.2.2 = true then (spec_GetsOf.l1 k2 l1 x6_1 t604 x8_1 (wrap64 (x10_2 + 1)) l0_0 l0_1 bt625.1 bt625.2.1) else (some ((([] : List (S36))), false))) else (some ((([] : List (S36))), false))))) = some (r1, r2) := H
         have A28 := Aside0.mk A280
         clear A280
         replace H := Option.bind_eq_some_iff.mp H
         obtain ⟨⟨t621, t622, t623⟩, A290, H⟩ := H
         replace H : ((spec_PlusOf.f k2 x609000_2 x609001_2 t621 t622).bind fun bt625 => (if t623 = true then (if bt625.2.2 = true then (spec_GetsOf.l1 k2 l1 x6_1 t604 x8_1 (wrap64 (x10_2 + 1)) l0_0 l0_1 bt625.1 bt625.2.1) else (some ((([] : List (S36))), false))) else (some ((([] : List (S36))), false)))) = some (r1, r2) := H
         have A29 := Aside0.mk A290
         clear A290
         replace H := Option.bind_eq_some_iff.mp H
         obtain ⟨⟨t625, t626, t627⟩, A300, H⟩ := H
         replace H : (if t623 = true then (if t627 = true then (spec_GetsOf.l1 k2 l1 x6_1 t604 x8_1 (wrap64 (x10_2 + 1)) l0_0 l0_1 t625 t626) else (some ((([] : List (S36))), false))) else (some ((([] : List (S36))), false))) = some (r1, r2) := H
         have A30 := Aside0.mk A300
         clear A300
         by_cases c31 : t623 = true
         ·subst c31
          replace H := ifp_ H
          by_cases c32 : t627 = true
          ·subst c32
           replace H := ifp_ H
           have H' := Aside0.mk H
           clear H
           obtain ⟨Ao33, co33, eo33⟩ := Kd.R_slice HO_7.out
           subst eo33
           have p612 : 0 ≤ (x10_2 : Int) := of_decide_eq_true (g1_)
           have q612 : x10_2 < (t604.length : Int) := of_decide_eq_true (g1_)
           obtain ⟨ad612, e612, hx612_0⟩ := Kd.at_int (Kd.R_reads' HO_7.out).2.2 x10_2 p612 q612
           cases e612
           replace p612 := eq_true p612
           replace q612 := eq_true q612
           try go_wp2
           replace HO_6 := Aside0.mk (Kd.R_drew HO_6.out)
           replace HO_7 := Aside0.mk (Kd.R_drew HO_7.out)
           replace BK599 := Aside0.mk (blk_drew BK599.out)
           replace BK608 := Aside0.mk (blk_drew BK608.out)
           replace HB := Aside0.mk (below_drew1 HB.out)
           have p613 : 0 ≤ (x10_2 : Int) := of_decide_eq_true (g1_)
           have q613 : x10_2 < (l0_1.length : Int) := of_decide_eq_true (g1_)
           obtain ⟨ad613, A613_0, c613_0, e613, hx613_0, hl613_0, hi613_0⟩ := at_L2 HR0_1.out x10_2 p613 q613
           have hw613_0 := hx613_0
           cases e613
           replace hx613_0 := cl_ HB hx613_0
           have HR613_0 := Aside0.mk hi613_0
           have HC613_0 := Aside0.mk hl613_0
           clear hi613_0 hl613_0
           replace p613 := eq_true p613
           replace q613 := eq_true q613
           have p614 : 0 ≤ (x8_1 : Int) := of_decide_eq_true (g1_)
           have q614 : x8_1 < ((rd_L2 l0_1 x10_2).length : Int) := of_decide_eq_true (g1_)
           obtain ⟨ad614, e614, hx614_0⟩ := Kd.at_int HR613_0.out x8_1 p614 q614
           have hw614_0 := hx614_0
           cases e614
           replace hx614_0 := cl_ HB hx614_0
           replace p614 := eq_true p614
           replace q614 := eq_true q614
           have p615 : 0 ≤ (x10_2 : Int) := of_decide_eq_true (g1_)
           have q615 : x10_2 < (t604.length : Int) := of_decide_eq_true (g1_)
           obtain ⟨ad615, e615, hx615_0⟩ := Kd.at_int (Kd.R_reads' HO_7.out).2.2 x10_2 p615 q615
           obtain rfl : ad612 = ad615 := (by injection e615)
           replace p615 := eq_true p615
           replace q615 := eq_true q615
           refine start_ (n := 19) (S := fun w' => w'.cell? ⟨gb599, 0, none⟩ = some (.slice (some ad607) l0_0.length c0_0) ∧ w'.cell? ⟨gb599, 1, none⟩ = some (.slice (some ad613) l0_1.length c0_1) ∧ w'.cell? (ad613.add (x10_2).toNat) = some (.slice (some ad614) (rd_L2 l0_1 x10_2).length c613_0) ∧ w'.cell? (ad614.add (x8_1).toNat) = some (.int .i64 (rd (rd_L2 l0_1 x10_2) x8_1)) ∧ w'.cell? (ad612.add (x10_2).toNat) = some (.int .i64 (rd t604 x10_2))) (ds := []) (tl_ 19 0) (g0_) rfl (g0_) ⟨(blk_cell BK599.out 0).trans rfl, (blk_cell BK599.out 1).trans rfl, ((cl_ HB hw613_0).trans rfl), ((cl_ HB hw614_0).trans rfl), hx615_0⟩ (fun hHeld => ?_); refine with_tabW spec_GetsOf.tab13 spec_GetsOf.bits13 (fun HT_ HW_ => ?_)
           generalize wr.drew = w34 at HO_6 HO_7 BK599 BK608 HB HR613_0 hx613_0 hx614_0 hx615_0 hHeld ⊢
           refine pw_ 0 49 (tl_ 19 1) rfl rfl ?_
           refine pw_ 2 51 (tl_ 19 5) rfl rfl ?_
           refine pw_ 5 54 (tl_ 19 37) rfl rfl ?_
           refine pw_ 8 57 (tl_ 19 293) rfl rfl ?_
           refine pw_ 9 58 (tl_ 19 805) rfl rfl ?_
           refine pw_ 10 59 (tl_ 19 1829) rfl rfl ?_
           refine tk5_ 1 50 (tl_ 19 1831) rfl rfl hHeld ?_
           refine pw_ 3 52 (tl_ 19 1839) rfl rfl ?_
           refine tk5_ 4 53 (tl_ 19 1855) rfl rfl hHeld ?_
           refine pw_ 6 55 (tl_ 19 1919) rfl rfl ?_
           refine tk5_ 7 56 (tl_ 19 2047) rfl rfl hHeld ?_
           refine tk5_ 11 60 (tl_ 19 4095) rfl rfl hHeld ?_
           refine join_ (σ := Nat) 2 (tl_ 19 131071) (fun s_ => [(61, .tuple #[.agg #[.int .i64 t616, .int .i64 t617], .bool t618]), (11, .pointer (some ⟨s_, 0, none⟩)), (48, .tuple #[.agg #[.int .i64 t616, .int .i64 t617], .bool t618]), (62, .agg #[.int .i64 t616, .int .i64 t617]), (63, .bool t618)]) (fun s_ w' => (w'.cell? ⟨gb599, 0, none⟩ = some (.slice (some ad607) l0_0.length c0_0) ∧ w'.cell? ⟨gb599, 1, none⟩ = some (.slice (some ad613) l0_1.length c0_1) ∧ w'.cell? (ad613.add (x10_2).toNat) = some (.slice (some ad614) (rd_L2 l0_1 x10_2).length c613_0) ∧ w'.cell? (ad614.add (x8_1).toNat) = some (.int .i64 (rd (rd_L2 l0_1 x10_2) x8_1)) ∧ w'.cell? (ad612.add (x10_2).toNat) = some (.int .i64 (rd t604 x10_2))) ∧ (Kd.R k36 36 w' w.heap.size (fun k_ => k_ ≠ gb608 ∧ k_ ≠ s_) u6 x6_1) ∧ (Kd.R (Kd.int .i64) 3 w' w.heap.size (fun _ => True) (.slice (some ad612) t604.length co33) t604) ∧ (w'.heap[gb599]? = some (.cells #[.slice (some ad607) l0_0.length c0_0, .slice (some ad613) l0_1.length c0_1] 26 (0, 0))) ∧ (w'.heap[gb608]? = some (.cells #[.int .i64 x609000_2, .int .i64 x609001_2] 36 (0, 0))) ∧ (w'.heap[s_]? = some (.cells #[.int .i64 0, .int .i64 0] 36 (0, 0))) ∧ (w.heap.size ≤ s_) ∧ (w.heap.size ≤ s_) ∧ (gb599 ≠ s_) ∧ (s_ ≠ gb599) ∧ (gb608 ≠ s_) ∧ (s_ ≠ gb608) ∧ (Below w.heap.size w w')) ?_ ?_
           rotate_left
           ·intro hCont
            refine two_ (i := 12) (j := 16) (Ni := some 61) (Nj := some 11) (tl_ 19 8191) (tl_ 19 69631) rfl rfl rfl rfl (two_of HT_.out (g0_)) (by decide) (by decide) (fun K hK => ?_) (fun K hK => ?_)
            ·skip
             refine goes_ Try.func74 (g0_) rfl #[.int .i64 (rd (rd_L2 l0_1 x10_2) x8_1), .int .i64 (rd t604 x10_2)] (by rfl) rfl rfl (g2_) ?_
             with_reducible refine (spec_FracOf.calls k2 (rd (rd_L2 l0_1 x10_2) x8_1) (rd t604 x10_2) t616 t617 t618 _ A28.out).mono ?_
             rintro e w35 ⟨rfl, hb⟩
             have HS4_ := (hb.cell (World.block_lt_of_cell? _ _ (hHeld.2.2.2.2))).trans (hHeld.2.2.2.2)
             refine ⟨_, rfl, ?_⟩
             replace HO_6 := Aside0.mk (Kd.R_below (uf1_ HO_6) hb)
             replace HO_7 := Aside0.mk (Kd.R_below (uf1_ HO_7) hb)
             replace BK599 := bb_ BK599 hb
             replace BK608 := bb_ BK608 hb
             replace HB := Aside0.mk (below_step (spec_GetsOf.calls_q0) hb)
             (try clear hb)
             (try clear hk hi)
             refine hK.out _ _ ⟨(blk_cell BK599.out 0).trans rfl, (blk_cell BK599.out 1).trans rfl, ((cl_ HB hw613_0).trans rfl), ((cl_ HB hw614_0).trans rfl), HS4_⟩ (fun hHeld => ?_)
             clear hK K
             refine nm_ ?_
             refine pw_ 13 48 (tl_ 19 16383) rfl rfl ?_
             refine pw_ 14 62 (tl_ 19 32767) rfl rfl ?_
             refine pw_ 15 63 (tl_ 19 65535) rfl rfl ?_
             refine one_ (i := 16) (N := some 11) (tl_ 19 131071) rfl rfl (one_of HT_.out (g0_)) (by decide) (fun K hK => ?_)
             refine bs_ (N := 11) #[.int .i64 0, .int .i64 0] 36 ?_
             intro gb619 hg w36 hbox hb
             have HS4_ := (hb.cell (World.block_lt_of_cell? _ _ (hHeld.2.2.2.2))).trans (hHeld.2.2.2.2)
             replace HO_6 := Aside0.mk (Kd.R_below (Kd.R_elderB (uf1_ HO_6) gb619 (Nat.le_of_eq hg.symm)) hb)
             replace HO_7 := Aside0.mk (Kd.R_below (uf1_ HO_7) hb)
             have BK619 := Aside0.mk (hbox)
             have GW619 := Aside0.mk ((g6_ : w.heap.size ≤ gb619))
             have GE619 := Aside0.mk ((g6_ : w.heap.size ≤ gb619))
             replace HB := Aside0.mk (below_step (spec_GetsOf.calls_q0) hb)
             have NB599_619 := Aside0.mk ((g25_ : gb599 ≠ gb619))
             have NB619_599 := Aside0.mk ((g26_ : gb619 ≠ gb599))
             replace BK599 := bb_ BK599 hb
             have NB608_619 := Aside0.mk ((g27_ : gb608 ≠ gb619))
             have NB619_608 := Aside0.mk ((g28_ : gb619 ≠ gb608))
             replace BK608 := bb_ BK608 hb
             clear hb hbox hg
             refine hK.out _ _ ⟨(blk_cell BK599.out 0).trans rfl, (blk_cell BK599.out 1).trans rfl, ((cl_ HB hw613_0).trans rfl), ((cl_ HB hw614_0).trans rfl), HS4_⟩ (fun hHeld => ?_)
             clear hK K
             refine nm_ ?_
             exact norm_ (g8_) (hCont (gb619) _ ⟨hHeld, (uf1_ HO_6), (uf1_ HO_7), (uf0_ BK599), (uf0_ BK608), (uf0_ BK619), GW619.out, GE619.out, NB599_619.out, NB619_599.out, NB608_619.out, NB619_608.out, (spec_GetsOf.calls_q0)⟩)
            ·skip
             refine bs_ (N := 11) #[.int .i64 0, .int .i64 0] 36 ?_
             intro gb619 hg w35 hbox hb
             have HS4_ := (hb.cell (World.block_lt_of_cell? _ _ (hHeld.2.2.2.2))).trans (hHeld.2.2.2.2)
             replace HO_6 := Aside0.mk (Kd.R_below (Kd.R_elderB (uf1_ HO_6) gb619 (Nat.le_of_eq hg.symm)) hb)
             replace HO_7 := Aside0.mk (Kd.R_below (uf1_ HO_7) hb)
             have BK619 := Aside0.mk (hbox)
             have GW619 := Aside0.mk ((g6_ : w.heap.size ≤ gb619))
             have GE619 := Aside0.mk ((g6_ : w.heap.size ≤ gb619))
             replace HB := Aside0.mk (below_step (spec_GetsOf.calls_q0) hb)
             have NB599_619 := Aside0.mk ((g25_ : gb599 ≠ gb619))
             have NB619_599 := Aside0.mk ((g26_ : gb619 ≠ gb599))
             replace BK599 := bb_ BK599 hb
             have NB608_619 := Aside0.mk ((g27_ : gb608 ≠ gb619))
             have NB619_608 := Aside0.mk ((g28_ : gb619 ≠ gb608))
             replace BK608 := bb_ BK608 hb
             clear hb hbox hg
             refine hK.out _ _ ⟨(blk_cell BK599.out 0).trans rfl, (blk_cell BK599.out 1).trans rfl, ((cl_ HB hw613_0).trans rfl), ((cl_ HB hw614_0).trans rfl), HS4_⟩ (fun hHeld => ?_)
             clear hK K
             refine nm_ ?_
             refine one_ (i := 12) (N := some 61) (tl_ 19 73727) rfl rfl (one_of HT_.out (g0_)) (by decide) (fun K hK => ?_)
             refine goes_ Try.func74 (g0_) rfl #[.int .i64 (rd (rd_L2 l0_1 x10_2) x8_1), .int .i64 (rd t604 x10_2)] (by rfl) rfl rfl (g2_) ?_
             with_reducible refine (spec_FracOf.calls k2 (rd (rd_L2 l0_1 x10_2) x8_1) (rd t604 x10_2) t616 t617 t618 _ A28.out).mono ?_
             rintro e w36 ⟨rfl, hb⟩
             have HS4_ := (hb.cell (World.block_lt_of_cell? _ _ (hHeld.2.2.2.2))).trans (hHeld.2.2.2.2)
             refine ⟨_, rfl, ?_⟩
             replace HO_6 := Aside0.mk (Kd.R_below (uf1_ HO_6) hb)
             replace HO_7 := Aside0.mk (Kd.R_below (uf1_ HO_7) hb)
             replace BK599 := bb_ BK599 hb
             replace BK608 := bb_ BK608 hb
             replace BK619 := bb_ BK619 hb
             replace HB := Aside0.mk (below_step (spec_GetsOf.calls_q0) hb)
             (try clear hb)
             (try clear hk hi)
             refine hK.out _ _ ⟨(blk_cell BK599.out 0).trans rfl, (blk_cell BK599.out 1).trans rfl, ((cl_ HB hw613_0).trans rfl), ((cl_ HB hw614_0).trans rfl), HS4_⟩ (fun hHeld => ?_)
             clear hK K
             refine nm_ ?_
             refine pw_ 13 48 (tl_ 19 81919) rfl rfl ?_
             refine pw_ 14 62 (tl_ 19 98303) rfl rfl ?_
             refine pw_ 15 63 (tl_ 19 131071) rfl rfl ?_
             exact norm_ (g8_) (hCont (gb619) _ ⟨hHeld, (uf1_ HO_6), (uf1_ HO_7), (uf0_ BK599), (uf0_ BK608), (uf0_ BK619), GW619.out, GE619.out, NB599_619.out, NB619_599.out, NB608_619.out, NB619_608.out, (spec_GetsOf.calls_q0)⟩)
           rintro gb619 w37 ⟨hS_, h0_, h1_, h2_, h3_, h4_, h5_, h6_, h7_, h8_, h9_, h10_, h11_⟩
           replace HO_6 : Aside0 (Kd.R k36 36 w37 w.heap.size (fun k_ => k_ ≠ gb608 ∧ k_ ≠ gb619) u6 x6_1) := ⟨h0_⟩
           replace HO_7 : Aside0 (Kd.R (Kd.int .i64) 3 w37 w.heap.size (fun _ => True) (.slice (some ad612) t604.length co33) t604) := ⟨h1_⟩
           replace BK599 : Aside0 (w37.heap[gb599]? = some (.cells #[.slice (some ad607) l0_0.length c0_0, .slice (some ad613) l0_1.length c0_1] 26 (0, 0))) := ⟨h2_⟩
           replace BK608 : Aside0 (w37.heap[gb608]? = some (.cells #[.int .i64 x609000_2, .int .i64 x609001_2] 36 (0, 0))) := ⟨h3_⟩
           have BK619 : Aside0 (w37.heap[gb619]? = some (.cells #[.int .i64 0, .int .i64 0] 36 (0, 0))) := ⟨h4_⟩
           have GW619 : Aside0 (w.heap.size ≤ gb619) := ⟨h5_⟩
           have GE619 : Aside0 (w.heap.size ≤ gb619) := ⟨h6_⟩
           have NB599_619 : Aside0 (gb599 ≠ gb619) := ⟨h7_⟩
           have NB619_599 : Aside0 (gb619 ≠ gb599) := ⟨h8_⟩
           have NB608_619 : Aside0 (gb608 ≠ gb619) := ⟨h9_⟩
           have NB619_608 : Aside0 (gb619 ≠ gb608) := ⟨h10_⟩
           replace HB : Aside0 (Below w.heap.size w w37) := ⟨h11_⟩
           clear h0_ h1_ h2_ h3_ h4_ h5_ h6_ h7_ h8_ h9_ h10_ h11_
           have hHeld : w37.cell? ⟨gb599, 0, none⟩ = some (.slice (some ad607) l0_0.length c0_0) ∧ w37.cell? ⟨gb599, 1, none⟩ = some (.slice (some ad613) l0_1.length c0_1) ∧ w37.cell? (ad613.add (x10_2).toNat) = some (.slice (some ad614) (rd_L2 l0_1 x10_2).length c613_0) ∧ w37.cell? (ad614.add (x8_1).toNat) = some (.int .i64 (rd (rd_L2 l0_1 x10_2) x8_1)) ∧ w37.cell? (ad612.add (x10_2).toNat) = some (.int .i64 (rd t604 x10_2)) := hS_
           refine norm_ (a' := ?_) ?_ ?_
           rotate_left
           ·simp only [putAll, Act.put, List.setIfInBounds_toArray, List.set_cons_zero, List.set_cons_succ]
            rfl
           refine one_ (i := 17) (N := none) (tl_ 19 262143) rfl rfl (one_of HT_.out (g0_)) (by decide) (fun K hK => ?_)
           have hs38 : w37.cell? ⟨gb619, 0, none⟩ = some (.int .i64 0) := (blk_cell BK619.out 0).trans rfl
           have hfs38 := blk_frozen BK619.out 0
           have hns38_0 := NB599_619.out
           have hns38_1 := NB608_619.out
           have hms38_0 := NB619_599.out
           have hms38_1 := NB619_608.out
           have hs39 : w37.cell? ⟨gb619, 1, none⟩ = some (.int .i64 0) := (blk_cell BK619.out 1).trans rfl
           have hfs39 := blk_frozen BK619.out 1
           have hns39_0 := NB599_619.out
           have hns39_1 := NB608_619.out
           have hms39_0 := NB619_599.out
           have hms39_1 := NB619_608.out
           refine skip_ (w1 := ?_) (by rfl) rfl ?_ ?_
           rotate_left
           ·go_simp
            rfl
           refine hK.out _ _ ⟨(cf_ NB599_619 ((cf_ NB599_619 (hHeld.1)))), (cf_ NB599_619 ((cf_ NB599_619 (hHeld.2.1)))), ((cell_far (p := ⟨gb619, _, none⟩) (by first | exact Nat.ne_of_lt (Nat.lt_of_lt_of_le (by have := World.block_lt_of_cell? _ _ hw613_0; first | rwa [add_block] at this | exact this) GW619.out) | (rw [add_block]; exact Nat.ne_of_lt (Nat.lt_of_lt_of_le (by have := World.block_lt_of_cell? _ _ hw613_0; first | rwa [add_block] at this | exact this) GW619.out)) | (show (Addr.add _ _).block ≠ _; rw [add_block]; exact Nat.ne_of_lt (Nat.lt_of_lt_of_le (by have := World.block_lt_of_cell? _ _ hw613_0; first | rwa [add_block] at this | exact this) GW619.out)) | (dsimp only; exact Nat.ne_of_lt (Nat.lt_of_lt_of_le (by have := World.block_lt_of_cell? _ _ hw613_0; first | rwa [add_block] at this | exact this) GW619.out))) _).trans (((cell_far (p := ⟨gb619, _, none⟩) (by first | exact Nat.ne_of_lt (Nat.lt_of_lt_of_le (by have := World.block_lt_of_cell? _ _ hw613_0; first | rwa [add_block] at this | exact this) GW619.out) | (rw [add_block]; exact Nat.ne_of_lt (Nat.lt_of_lt_of_le (by have := World.block_lt_of_cell? _ _ hw613_0; first | rwa [add_block] at this | exact this) GW619.out)) | (show (Addr.add _ _).block ≠ _; rw [add_block]; exact Nat.ne_of_lt (Nat.lt_of_lt_of_le (by have := World.block_lt_of_cell? _ _ hw613_0; first | rwa [add_block] at this | exact this) GW619.out)) | (dsimp only; exact Nat.ne_of_lt (Nat.lt_of_lt_of_le (by have := World.block_lt_of_cell? _ _ hw613_0; first | rwa [add_block] at this | exact this) GW619.out))) _).trans (hHeld.2.2.1)))), ((cell_far (p := ⟨gb619, _, none⟩) (by first | exact Nat.ne_of_lt (Nat.lt_of_lt_of_le (by have := World.block_lt_of_cell? _ _ hw614_0; first | rwa [add_block] at this | exact this) GW619.out) | (rw [add_block]; exact Nat.ne_of_lt (Nat.lt_of_lt_of_le (by have := World.block_lt_of_cell? _ _ hw614_0; first | rwa [add_block] at this | exact this) GW619.out)) | (show (Addr.add _ _).block ≠ _; rw [add_block]; exact Nat.ne_of_lt (Nat.lt_of_lt_of_le (by have := World.block_lt_of_cell? _ _ hw614_0; first | rwa [add_block] at this | exact this) GW619.out)) | (dsimp only; exact Nat.ne_of_lt (Nat.lt_of_lt_of_le (by have := World.block_lt_of_cell? _ _ hw614_0; first | rwa [add_block] at this | exact this) GW619.out))) _).trans (((cell_far (p := ⟨gb619, _, none⟩) (by first | exact Nat.ne_of_lt (Nat.lt_of_lt_of_le (by have := World.block_lt_of_cell? _ _ hw614_0; first | rwa [add_block] at this | exact this) GW619.out) | (rw [add_block]; exact Nat.ne_of_lt (Nat.lt_of_lt_of_le (by have := World.block_lt_of_cell? _ _ hw614_0; first | rwa [add_block] at this | exact this) GW619.out)) | (show (Addr.add _ _).block ≠ _; rw [add_block]; exact Nat.ne_of_lt (Nat.lt_of_lt_of_le (by have := World.block_lt_of_cell? _ _ hw614_0; first | rwa [add_block] at this | exact this) GW619.out)) | (dsimp only; exact Nat.ne_of_lt (Nat.lt_of_lt_of_le (by have := World.block_lt_of_cell? _ _ hw614_0; first | rwa [add_block] at this | exact this) GW619.out))) _).trans (hHeld.2.2.2.1)))), ((cell_far (p := ⟨gb619, _, none⟩) (g72_) _).trans (((cell_far (p := ⟨gb619, _, none⟩) (g72_) _).trans (hHeld.2.2.2.2))))⟩ (fun hHeld => ?_)
           clear hK K
           refine pw_ 18 12 (tl_ 19 524287) rfl rfl ?_
           refine done_ (done_of HT_.out (g0_)) ?_
           try go_wp2
           have n0_ : Aside0 (Kd.R k36 36 ((w37.setCell ⟨gb619, 0, none⟩ (.int .i64 t616)).setCell ⟨gb619, 1, none⟩ (.int .i64 t617)) w.heap.size (fun k_ => k_ ≠ gb608 ∧ k_ ≠ gb619) u6 x6_1) := ⟨g159_⟩
           have n1_ : Aside0 (Kd.R (Kd.int .i64) 3 ((w37.setCell ⟨gb619, 0, none⟩ (.int .i64 t616)).setCell ⟨gb619, 1, none⟩ (.int .i64 t617)) w.heap.size (fun _ => True) (.slice (some ad612) t604.length co33) t604) := ⟨g160_⟩
           have n2_ : Aside0 (((w37.setCell ⟨gb619, 0, none⟩ (.int .i64 t616)).setCell ⟨gb619, 1, none⟩ (.int .i64 t617)).heap[gb599]? = some (.cells #[.slice (some ad607) l0_0.length c0_0, .slice (some ad613) l0_1.length c0_1] 26 (0, 0))) := ⟨g161_⟩
           have n3_ : Aside0 (((w37.setCell ⟨gb619, 0, none⟩ (.int .i64 t616)).setCell ⟨gb619, 1, none⟩ (.int .i64 t617)).heap[gb608]? = some (.cells #[.int .i64 x609000_2, .int .i64 x609001_2] 36 (0, 0))) := ⟨g162_⟩
           have n4_ : Aside0 (((w37.setCell ⟨gb619, 0, none⟩ (.int .i64 t616)).setCell ⟨gb619, 1, none⟩ (.int .i64 t617)).heap[gb619]? = some (.cells #[.int .i64 t616, .int .i64 t617] 36 (0, 0))) := ⟨g163_⟩
           have n5_ : Aside0 (Below w.heap.size w ((w37.setCell ⟨gb619, 0, none⟩ (.int .i64 t616)).setCell ⟨gb619, 1, none⟩ (.int .i64 t617))) := ⟨spec_GetsOf.calls_q0⟩
           (try clear HO_6)
           (try clear HO_7)
           (try clear BK599)
           (try clear BK608)
           (try clear BK619)
           (try clear HB)
           generalize ((w37.setCell ⟨gb619, 0, none⟩ (.int .i64 t616)).setCell ⟨gb619, 1, none⟩ (.int .i64 t617)) = w40 at n0_ n1_ n2_ n3_ n4_ n5_ ⊢
           have HO_6 := n0_
           have HO_7 := n1_
           have BK599 := n2_
           have BK608 := n3_
           have BK619 := n4_
           have HB := n5_
           clear n0_ n1_ n2_ n3_ n4_ n5_
           replace HO_6 := Aside0.mk (Kd.R_drew HO_6.out)
           replace HO_7 := Aside0.mk (Kd.R_drew HO_7.out)
           replace BK599 := Aside0.mk (blk_drew BK599.out)
           replace BK608 := Aside0.mk (blk_drew BK608.out)
           replace BK619 := Aside0.mk (blk_drew BK619.out)
           replace HB := Aside0.mk (below_drew1 HB.out)
           have p620 : 0 ≤ (x10_2 : Int) := of_decide_eq_true (g1_)
           have q620 : x10_2 < (l1.length : Int) := of_decide_eq_true (g1_)
           obtain ⟨ad620, e620, hx620_0, hx620_1⟩ := at_T36 HR1.out x10_2 p620 q620
           have hw620_1 := hx620_1
           have hw620_0 := hx620_0
           cases e620
           replace hx620_0 := cl_ HB hx620_0
           replace hx620_1 := cl_ HB hx620_1
           replace p620 := eq_true p620
           replace q620 := eq_true q620
           refine start_ (n := 12) (S := fun w' => w'.cell? ⟨gb619, 0, none⟩ = some (.int .i64 t616) ∧ w'.cell? ⟨gb619, 1, none⟩ = some (.int .i64 t617) ∧ w'.cell? (ad620.add ((x10_2).toNat * 2)) = some (.int .i64 ((rd_T36 l1 x10_2).f0)) ∧ w'.cell? ⟨(ad620.add ((x10_2).toNat * 2)).block, (ad620.add ((x10_2).toNat * 2)).off + 1, none⟩ = some (.int .i64 ((rd_T36 l1 x10_2).f1))) (ds := []) (tl_ 12 0) (g0_) rfl (g0_) ⟨(blk_cell BK619.out 0).trans rfl, (blk_cell BK619.out 1).trans rfl, ((cl_ HB hw620_0).trans rfl), ((cl_ HB hw620_1).trans rfl)⟩ (fun hHeld => ?_); refine with_tabW spec_GetsOf.tab14 spec_GetsOf.bits14 (fun HT_ HW_ => ?_)
           generalize w40.drew = w41 at HO_6 HO_7 BK599 BK608 BK619 HB hx620_0 hx620_1 hHeld ⊢
           refine pw_ 0 65 (tl_ 12 1) rfl rfl ?_
           refine pw_ 1 66 (tl_ 12 3) rfl rfl ?_
           refine pw_ 2 67 (tl_ 12 7) rfl rfl ?_
           refine tk3_ 3 68 (tl_ 12 15) rfl rfl hHeld ?_
           refine tk3_ 4 69 (tl_ 12 31) rfl rfl hHeld ?_
           refine join_ (σ := Nat) 2 (tl_ 12 1023) (fun s_ => [(70, .tuple #[.agg #[.int .i64 t621, .int .i64 t622], .bool true]), (13, .pointer (some ⟨s_, 0, none⟩)), (64, .tuple #[.agg #[.int .i64 t621, .int .i64 t622], .bool true]), (71, .agg #[.int .i64 t621, .int .i64 t622]), (72, .bool true)]) (fun s_ w' => (w'.cell? ⟨gb619, 0, none⟩ = some (.int .i64 t616) ∧ w'.cell? ⟨gb619, 1, none⟩ = some (.int .i64 t617) ∧ w'.cell? (ad620.add ((x10_2).toNat * 2)) = some (.int .i64 ((rd_T36 l1 x10_2).f0)) ∧ w'.cell? ⟨(ad620.add ((x10_2).toNat * 2)).block, (ad620.add ((x10_2).toNat * 2)).off + 1, none⟩ = some (.int .i64 ((rd_T36 l1 x10_2).f1))) ∧ (Kd.R k36 36 w' w.heap.size (fun k_ => k_ ≠ gb608 ∧ k_ ≠ gb619 ∧ k_ ≠ s_) u6 x6_1) ∧ (Kd.R (Kd.int .i64) 3 w' w.heap.size (fun _ => True) (.slice (some ad612) t604.length co33) t604) ∧ (w'.heap[gb599]? = some (.cells #[.slice (some ad607) l0_0.length c0_0, .slice (some ad613) l0_1.length c0_1] 26 (0, 0))) ∧ (w'.heap[gb608]? = some (.cells #[.int .i64 x609000_2, .int .i64 x609001_2] 36 (0, 0))) ∧ (w'.heap[gb619]? = some (.cells #[.int .i64 t616, .int .i64 t617] 36 (0, 0))) ∧ (w'.heap[s_]? = some (.cells #[.int .i64 0, .int .i64 0] 36 (0, 0))) ∧ (w.heap.size ≤ s_) ∧ (w.heap.size ≤ s_) ∧ (gb599 ≠ s_) ∧ (s_ ≠ gb599) ∧ (gb608 ≠ s_) ∧ (s_ ≠ gb608) ∧ (gb619 ≠ s_) ∧ (s_ ≠ gb619) ∧ (Below w.heap.size w w')) ?_ ?_
           rotate_left
           ·intro hCont
            refine two_ (i := 5) (j := 9) (Ni := some 70) (Nj := some 13) (tl_ 12 63) (tl_ 12 543) rfl rfl rfl rfl (two_of HT_.out (g0_)) (by decide) (by decide) (fun K hK => ?_) (fun K hK => ?_)
            ·skip
             refine goes_ Try.func75 (g0_) rfl #[.agg #[.int .i64 ((rd_T36 l1 x10_2).f0), .int .i64 ((rd_T36 l1 x10_2).f1)], .agg #[.int .i64 t616, .int .i64 t617]] (by rfl) rfl rfl (g2_) ?_
             with_reducible refine (spec_TimesOf.calls k2 ((rd_T36 l1 x10_2).f0) ((rd_T36 l1 x10_2).f1) t616 t617 t621 t622 true _ A29.out).mono ?_
             rintro e w42 ⟨rfl, hb⟩
             refine ⟨_, rfl, ?_⟩
             replace HO_6 := Aside0.mk (Kd.R_below (uf1_ HO_6) hb)
             replace HO_7 := Aside0.mk (Kd.R_below (uf1_ HO_7) hb)
             replace BK599 := bb_ BK599 hb
             replace BK608 := bb_ BK608 hb
             replace BK619 := bb_ BK619 hb
             replace HB := Aside0.mk (below_step (spec_GetsOf.calls_q0) hb)
             (try clear hb)
             (try clear hk hi)
             refine hK.out _ _ ⟨(blk_cell BK619.out 0).trans rfl, (blk_cell BK619.out 1).trans rfl, ((cl_ HB hw620_0).trans rfl), ((cl_ HB hw620_1).trans rfl)⟩ (fun hHeld => ?_)
             clear hK K
             refine nm_ ?_
             refine pw_ 6 64 (tl_ 12 127) rfl rfl ?_
             refine pw_ 7 71 (tl_ 12 255) rfl rfl ?_
             refine pw_ 8 72 (tl_ 12 511) rfl rfl ?_
             refine one_ (i := 9) (N := some 13) (tl_ 12 1023) rfl rfl (one_of HT_.out (g0_)) (by decide) (fun K hK => ?_)
             refine bs_ (N := 13) #[.int .i64 0, .int .i64 0] 36 ?_
             intro gb624 hg w43 hbox hb
             replace HO_6 := Aside0.mk (Kd.R_below (Kd.R_elderB (uf1_ HO_6) gb624 (Nat.le_of_eq hg.symm)) hb)
             replace HO_7 := Aside0.mk (Kd.R_below (uf1_ HO_7) hb)
             have BK624 := Aside0.mk (hbox)
             have GW624 := Aside0.mk ((g6_ : w.heap.size ≤ gb624))
             have GE624 := Aside0.mk ((g6_ : w.heap.size ≤ gb624))
             replace HB := Aside0.mk (below_step (spec_GetsOf.calls_q0) hb)
             have NB599_624 := Aside0.mk ((g25_ : gb599 ≠ gb624))
             have NB624_599 := Aside0.mk ((g26_ : gb624 ≠ gb599))
             replace BK599 := bb_ BK599 hb
             have NB608_624 := Aside0.mk ((g27_ : gb608 ≠ gb624))
             have NB624_608 := Aside0.mk ((g28_ : gb624 ≠ gb608))
             replace BK608 := bb_ BK608 hb
             have NB619_624 := Aside0.mk ((g39_ : gb619 ≠ gb624))
             have NB624_619 := Aside0.mk ((g40_ : gb624 ≠ gb619))
             replace BK619 := bb_ BK619 hb
             clear hb hbox hg
             refine hK.out _ _ ⟨(blk_cell BK619.out 0).trans rfl, (blk_cell BK619.out 1).trans rfl, ((cl_ HB hw620_0).trans rfl), ((cl_ HB hw620_1).trans rfl)⟩ (fun hHeld => ?_)
             clear hK K
             refine nm_ ?_
             exact norm_ (g8_) (hCont (gb624) _ ⟨hHeld, (g73_), (uf1_ HO_7), (uf0_ BK599), (uf0_ BK608), (uf0_ BK619), (uf0_ BK624), GW624.out, GE624.out, NB599_624.out, NB624_599.out, NB608_624.out, NB624_608.out, NB619_624.out, NB624_619.out, (spec_GetsOf.calls_q0)⟩)
            ·skip
             refine bs_ (N := 13) #[.int .i64 0, .int .i64 0] 36 ?_
             intro gb624 hg w42 hbox hb
             replace HO_6 := Aside0.mk (Kd.R_below (Kd.R_elderB (uf1_ HO_6) gb624 (Nat.le_of_eq hg.symm)) hb)
             replace HO_7 := Aside0.mk (Kd.R_below (uf1_ HO_7) hb)
             have BK624 := Aside0.mk (hbox)
             have GW624 := Aside0.mk ((g6_ : w.heap.size ≤ gb624))
             have GE624 := Aside0.mk ((g6_ : w.heap.size ≤ gb624))
             replace HB := Aside0.mk (below_step (spec_GetsOf.calls_q0) hb)
             have NB599_624 := Aside0.mk ((g25_ : gb599 ≠ gb624))
             have NB624_599 := Aside0.mk ((g26_ : gb624 ≠ gb599))
             replace BK599 := bb_ BK599 hb
             have NB608_624 := Aside0.mk ((g27_ : gb608 ≠ gb624))
             have NB624_608 := Aside0.mk ((g28_ : gb624 ≠ gb608))
             replace BK608 := bb_ BK608 hb
             have NB619_624 := Aside0.mk ((g39_ : gb619 ≠ gb624))
             have NB624_619 := Aside0.mk ((g40_ : gb624 ≠ gb619))
             replace BK619 := bb_ BK619 hb
             clear hb hbox hg
             refine hK.out _ _ ⟨(blk_cell BK619.out 0).trans rfl, (blk_cell BK619.out 1).trans rfl, ((cl_ HB hw620_0).trans rfl), ((cl_ HB hw620_1).trans rfl)⟩ (fun hHeld => ?_)
             clear hK K
             refine nm_ ?_
             refine one_ (i := 5) (N := some 70) (tl_ 12 575) rfl rfl (one_of HT_.out (g0_)) (by decide) (fun K hK => ?_)
             refine goes_ Try.func75 (g0_) rfl #[.agg #[.int .i64 ((rd_T36 l1 x10_2).f0), .int .i64 ((rd_T36 l1 x10_2).f1)], .agg #[.int .i64 t616, .int .i64 t617]] (by rfl) rfl rfl (g2_) ?_
             with_reducible refine (spec_TimesOf.calls k2 ((rd_T36 l1 x10_2).f0) ((rd_T36 l1 x10_2).f1) t616 t617 t621 t622 true _ A29.out).mono ?_
             rintro e w43 ⟨rfl, hb⟩
             refine ⟨_, rfl, ?_⟩
             replace HO_6 := Aside0.mk (Kd.R_below (uf1_ HO_6) hb)
             replace HO_7 := Aside0.mk (Kd.R_below (uf1_ HO_7) hb)
             replace BK599 := bb_ BK599 hb
             replace BK608 := bb_ BK608 hb
             replace BK619 := bb_ BK619 hb
             replace BK624 := bb_ BK624 hb
             replace HB := Aside0.mk (below_step (spec_GetsOf.calls_q0) hb)
             (try clear hb)
             (try clear hk hi)
             refine hK.out _ _ ⟨(blk_cell BK619.out 0).trans rfl, (blk_cell BK619.out 1).trans rfl, ((cl_ HB hw620_0).trans rfl), ((cl_ HB hw620_1).trans rfl)⟩ (fun hHeld => ?_)
             clear hK K
             refine nm_ ?_
             refine pw_ 6 64 (tl_ 12 639) rfl rfl ?_
             refine pw_ 7 71 (tl_ 12 767) rfl rfl ?_
             refine pw_ 8 72 (tl_ 12 1023) rfl rfl ?_
             exact norm_ (g8_) (hCont (gb624) _ ⟨hHeld, (g73_), (uf1_ HO_7), (uf0_ BK599), (uf0_ BK608), (uf0_ BK619), (uf0_ BK624), GW624.out, GE624.out, NB599_624.out, NB624_599.out, NB608_624.out, NB624_608.out, NB619_624.out, NB624_619.out, (spec_GetsOf.calls_q0)⟩)
           rintro gb624 w44 ⟨hS_, h0_, h1_, h2_, h3_, h4_, h5_, h6_, h7_, h8_, h9_, h10_, h11_, h12_, h13_, h14_⟩
           replace HO_6 : Aside0 (Kd.R k36 36 w44 w.heap.size (fun k_ => k_ ≠ gb608 ∧ k_ ≠ gb619 ∧ k_ ≠ gb624) u6 x6_1) := ⟨h0_⟩
           replace HO_7 : Aside0 (Kd.R (Kd.int .i64) 3 w44 w.heap.size (fun _ => True) (.slice (some ad612) t604.length co33) t604) := ⟨h1_⟩
           replace BK599 : Aside0 (w44.heap[gb599]? = some (.cells #[.slice (some ad607) l0_0.length c0_0, .slice (some ad613) l0_1.length c0_1] 26 (0, 0))) := ⟨h2_⟩
           replace BK608 : Aside0 (w44.heap[gb608]? = some (.cells #[.int .i64 x609000_2, .int .i64 x609001_2] 36 (0, 0))) := ⟨h3_⟩
           replace BK619 : Aside0 (w44.heap[gb619]? = some (.cells #[.int .i64 t616, .int .i64 t617] 36 (0, 0))) := ⟨h4_⟩
           have BK624 : Aside0 (w44.heap[gb624]? = some (.cells #[.int .i64 0, .int .i64 0] 36 (0, 0))) := ⟨h5_⟩
           have GW624 : Aside0 (w.heap.size ≤ gb624) := ⟨h6_⟩
           have GE624 : Aside0 (w.heap.size ≤ gb624) := ⟨h7_⟩
           have NB599_624 : Aside0 (gb599 ≠ gb624) := ⟨h8_⟩
           have NB624_599 : Aside0 (gb624 ≠ gb599) := ⟨h9_⟩
           have NB608_624 : Aside0 (gb608 ≠ gb624) := ⟨h10_⟩
           have NB624_608 : Aside0 (gb624 ≠ gb608) := ⟨h11_⟩
           have NB619_624 : Aside0 (gb619 ≠ gb624) := ⟨h12_⟩
           have NB624_619 : Aside0 (gb624 ≠ gb619) := ⟨h13_⟩
           replace HB : Aside0 (Below w.heap.size w w44) := ⟨h14_⟩
           clear h0_ h1_ h2_ h3_ h4_ h5_ h6_ h7_ h8_ h9_ h10_ h11_ h12_ h13_ h14_
           have hHeld : w44.cell? ⟨gb619, 0, none⟩ = some (.int .i64 t616) ∧ w44.cell? ⟨gb619, 1, none⟩ = some (.int .i64 t617) ∧ w44.cell? (ad620.add ((x10_2).toNat * 2)) = some (.int .i64 ((rd_T36 l1 x10_2).f0)) ∧ w44.cell? ⟨(ad620.add ((x10_2).toNat * 2)).block, (ad620.add ((x10_2).toNat * 2)).off + 1, none⟩ = some (.int .i64 ((rd_T36 l1 x10_2).f1)) := hS_
           refine norm_ (a' := ?_) ?_ ?_
           rotate_left
           ·simp only [putAll, Act.put, List.setIfInBounds_toArray, List.set_cons_zero, List.set_cons_succ]
            rfl
           refine one_ (i := 10) (N := none) (tl_ 12 2047) rfl rfl (one_of HT_.out (g0_)) (by decide) (fun K hK => ?_)
           have hs45 : w44.cell? ⟨gb624, 0, none⟩ = some (.int .i64 0) := (blk_cell BK624.out 0).trans rfl
           have hfs45 := blk_frozen BK624.out 0
           have hns45_0 := NB599_624.out
           have hns45_1 := NB608_624.out
           have hns45_2 := NB619_624.out
           have hms45_0 := NB624_599.out
           have hms45_1 := NB624_608.out
           have hms45_2 := NB624_619.out
           have hs46 : w44.cell? ⟨gb624, 1, none⟩ = some (.int .i64 0) := (blk_cell BK624.out 1).trans rfl
           have hfs46 := blk_frozen BK624.out 1
           have hns46_0 := NB599_624.out
           have hns46_1 := NB608_624.out
           have hns46_2 := NB619_624.out
           have hms46_0 := NB624_599.out
           have hms46_1 := NB624_608.out
           have hms46_2 := NB624_619.out
           refine skip_ (w1 := ?_) (by rfl) rfl ?_ ?_
           rotate_left
           ·go_simp
            rfl
           refine hK.out _ _ ⟨(cf_ NB619_624 ((cf_ NB619_624 (hHeld.1)))), (cf_ NB619_624 ((cf_ NB619_624 (hHeld.2.1)))), ((cell_far (p := ⟨gb624, _, none⟩) (by first | exact Nat.ne_of_lt (Nat.lt_of_lt_of_le (by have := World.block_lt_of_cell? _ _ hw620_0; first | rwa [add_block] at this | exact this) GW624.out) | (rw [add_block]; exact Nat.ne_of_lt (Nat.lt_of_lt_of_le (by have := World.block_lt_of_cell? _ _ hw620_0; first | rwa [add_block] at this | exact this) GW624.out)) | (show (Addr.add _ _).block ≠ _; rw [add_block]; exact Nat.ne_of_lt (Nat.lt_of_lt_of_le (by have := World.block_lt_of_cell? _ _ hw620_0; first | rwa [add_block] at this | exact this) GW624.out)) | (dsimp only; exact Nat.ne_of_lt (Nat.lt_of_lt_of_le (by have := World.block_lt_of_cell? _ _ hw620_0; first | rwa [add_block] at this | exact this) GW624.out))) _).trans (((cell_far (p := ⟨gb624, _, none⟩) (by first | exact Nat.ne_of_lt (Nat.lt_of_lt_of_le (by have := World.block_lt_of_cell? _ _ hw620_0; first | rwa [add_block] at this | exact this) GW624.out) | (rw [add_block]; exact Nat.ne_of_lt (Nat.lt_of_lt_of_le (by have := World.block_lt_of_cell? _ _ hw620_0; first | rwa [add_block] at this | exact this) GW624.out)) | (show (Addr.add _ _).block ≠ _; rw [add_block]; exact Nat.ne_of_lt (Nat.lt_of_lt_of_le (by have := World.block_lt_of_cell? _ _ hw620_0; first | rwa [add_block] at this | exact this) GW624.out)) | (dsimp only; exact Nat.ne_of_lt (Nat.lt_of_lt_of_le (by have := World.block_lt_of_cell? _ _ hw620_0; first | rwa [add_block] at this | exact this) GW624.out))) _).trans (hHeld.2.2.1)))), ((cell_far (p := ⟨gb624, _, none⟩) (by first | exact Nat.ne_of_lt (Nat.lt_of_lt_of_le (by have := World.block_lt_of_cell? _ _ hw620_1; first | rwa [add_block] at this | exact this) GW624.out) | (rw [add_block]; exact Nat.ne_of_lt (Nat.lt_of_lt_of_le (by have := World.block_lt_of_cell? _ _ hw620_1; first | rwa [add_block] at this | exact this) GW624.out)) | (show (Addr.add _ _).block ≠ _; rw [add_block]; exact Nat.ne_of_lt (Nat.lt_of_lt_of_le (by have := World.block_lt_of_cell? _ _ hw620_1; first | rwa [add_block] at this | exact this) GW624.out)) | (dsimp only; exact Nat.ne_of_lt (Nat.lt_of_lt_of_le (by have := World.block_lt_of_cell? _ _ hw620_1; first | rwa [add_block] at this | exact this) GW624.out))) _).trans (((cell_far (p := ⟨gb624, _, none⟩) (by first | exact Nat.ne_of_lt (Nat.lt_of_lt_of_le (by have := World.block_lt_of_cell? _ _ hw620_1; first | rwa [add_block] at this | exact this) GW624.out) | (rw [add_block]; exact Nat.ne_of_lt (Nat.lt_of_lt_of_le (by have := World.block_lt_of_cell? _ _ hw620_1; first | rwa [add_block] at this | exact this) GW624.out)) | (show (Addr.add _ _).block ≠ _; rw [add_block]; exact Nat.ne_of_lt (Nat.lt_of_lt_of_le (by have := World.block_lt_of_cell? _ _ hw620_1; first | rwa [add_block] at this | exact this) GW624.out)) | (dsimp only; exact Nat.ne_of_lt (Nat.lt_of_lt_of_le (by have := World.block_lt_of_cell? _ _ hw620_1; first | rwa [add_block] at this | exact this) GW624.out))) _).trans (hHeld.2.2.2))))⟩ (fun hHeld => ?_)
           clear hK K
           refine pw_ 11 14 (tl_ 12 4095) rfl rfl ?_
           refine done_ (done_of HT_.out (g0_)) ?_
           have hnb47 := NB608_599.out
           have hnc47 := NB599_608.out
           have hnb48 := NB608_619.out
           have hnc48 := NB619_608.out
           have hnb49 := NB608_624.out
           have hnc49 := NB624_608.out
           obtain ⟨hcz50_0, hcz50_1, hfz50_0, hfz50_1⟩ := blk2_ BK608
           have hnb51 := NB624_599.out
           have hnc51 := NB599_624.out
           have hnb52 := NB624_619.out
           have hnc52 := NB619_624.out
           obtain ⟨hcz53_0, hcz53_1, hfz53_0, hfz53_1⟩ := blk2_ BK624
           try go_wp2_with (first | ((with_reducible refine gate_callee (f := 76) rfl ?_); refine goesL_ (some 76) rfl rfl Try.func76 k_ rfl #[.agg #[.int .i64 x609000_2, .int .i64 x609001_2], .agg #[.int .i64 t621, .int .i64 t622]] rfl (g2_) ?_; (with_reducible refine (spec_PlusOf.calls k2 x609000_2 x609001_2 t621 t622 t625 t626 true _ A30.out).mono ?_); rintro e w54 ⟨rfl, hb⟩; refine ⟨_, rfl, ?_⟩; replace HO_6 := Aside0.mk (Kd.R_below (g164_) hb); replace HO_7 := Aside0.mk (Kd.R_below (g165_) hb); replace BK599 := Aside0.mk (blk_below (g := gb599) (o := .cells #[.slice (some ad607) l0_0.length c0_0, .slice (some ad613) l0_1.length c0_1] 26 (0, 0)) (g166_) hb); replace BK608 := Aside0.mk (blk_below (g := gb608) (o := .cells #[.int .i64 x609000_2, .int .i64 x609001_2] 36 (0, 0)) (g167_) hb); replace BK619 := Aside0.mk (blk_below (g := gb619) (o := .cells #[.int .i64 t616, .int .i64 t617] 36 (0, 0)) (g168_) hb); replace BK624 := Aside0.mk (blk_below (g := gb624) (o := .cells #[.int .i64 t621, .int .i64 t622] 36 (0, 0)) (g169_) hb); replace HB := Aside0.mk (below_step (spec_GetsOf.calls_q0) hb); (try clear hb); (try clear hk hi)) | ((with_reducible refine gate_dst (N := 15) rfl ?_); refine bx_ (N := 15) #[.int .i64 0, .int .i64 0] 36 ?_; intro gb628 hg w55 hbox hb; replace HO_6 := Aside0.mk (Kd.R_below (Kd.R_elderB (uf1_ HO_6) gb628 (Nat.le_of_eq hg.symm)) hb); replace HO_7 := Aside0.mk (Kd.R_below (uf1_ HO_7) hb); have BK628 := Aside0.mk (hbox); have GW628 := Aside0.mk ((g6_ : w.heap.size ≤ gb628)); have GE628 := Aside0.mk ((g6_ : w.heap.size ≤ gb628)); replace HB := Aside0.mk (below_step (spec_GetsOf.calls_q0) hb); have NB599_628 := Aside0.mk ((g25_ : gb599 ≠ gb628)); have NB628_599 := Aside0.mk ((g26_ : gb628 ≠ gb599)); replace BK599 := bb_ BK599 hb; have NB608_628 := Aside0.mk ((g27_ : gb608 ≠ gb628)); have NB628_608 := Aside0.mk ((g28_ : gb628 ≠ gb608)); replace BK608 := bb_ BK608 hb; have NB619_628 := Aside0.mk ((g39_ : gb619 ≠ gb628)); have NB628_619 := Aside0.mk ((g40_ : gb628 ≠ gb619)); replace BK619 := bb_ BK619 hb; have NB624_628 := Aside0.mk ((g170_ : gb624 ≠ gb628)); have NB628_624 := Aside0.mk ((g171_ : gb628 ≠ gb624)); replace BK624 := bb_ BK624 hb; clear hb hbox hg; have hnb56 := NB628_599.out; have hnc56 := NB599_628.out; have hnb57 := NB628_608.out; have hnc57 := NB608_628.out; have hnb58 := NB628_619.out; have hnc58 := NB619_628.out; have hnb59 := NB628_624.out; have hnc59 := NB624_628.out; obtain ⟨hcz60_0, hcz60_1, hfz60_0, hfz60_1⟩ := blk2_ BK628; obtain ⟨hcz61_0, hcz61_1, hfz61_0, hfz61_1⟩ := blk2_ BK608))
           go_roundg k2
           case measure => have := HK1.out; have := HK2.out; omega
           case rel => exact ⟨(wrap64 (x10_2 + 1)), (t625), (t626), (g3_), H', ⟨g34_⟩, ⟨by (with_reducible repeat (first | apply Kd.R_alloc | apply Kd.R_drewN | apply Kd.R_drew)); exact Kd.R_mono (Kd.R_far (p := ⟨gb608, 1, none⟩) (Kd.R_far (p := ⟨gb608, 0, none⟩) (Kd.R_far (p := ⟨gb628, 1, none⟩) (Kd.R_far (p := ⟨gb628, 0, none⟩) (Kd.R_mono (Kd.R_mono HO_6.out (fun k_ hk => (⟨hk, hk.2⟩ : _ ∧ k_ ≠ gb628))) (fun k_ hk => (⟨hk, hk.1.1.1⟩ : _ ∧ k_ ≠ gb608))) (fun _ hk => hk.1.2) (.int .i64 t625)) (fun _ hk => hk.1.2) (.int .i64 t626)) (fun _ hk => hk.2) (.int .i64 t625)) (fun _ hk => hk.2) (.int .i64 t626)) (fun _ hk => hk.1.1.1.1)⟩, ⟨by (with_reducible repeat (first | apply Kd.R_alloc | apply Kd.R_drewN | apply Kd.R_drew)); exact Kd.R_mono (Kd.R_far (p := ⟨gb608, 1, none⟩) (Kd.R_far (p := ⟨gb608, 0, none⟩) (Kd.R_far (p := ⟨gb628, 1, none⟩) (Kd.R_far (p := ⟨gb628, 0, none⟩) (Kd.R_types (Kd.R_types HO_7.out BK628.out (by decide)) BK608.out (by decide)) (fun _ hk => hk.1.2) (.int .i64 t625)) (fun _ hk => hk.1.2) (.int .i64 t626)) (fun _ hk => hk.2) (.int .i64 t625)) (fun _ hk => hk.2) (.int .i64 t626)) (fun _ hk => trivial)⟩, ⟨by (with_reducible repeat (first | refine blk_drewN ?_ _ | refine blk_drew ?_ | refine blk_alloc ?_ _)); refine blk_far ?_ NB599_608.out _; (with_reducible repeat (first | refine blk_drewN ?_ _ | refine blk_drew ?_ | refine blk_alloc ?_ _)); refine blk_far ?_ NB599_608.out _; (with_reducible repeat (first | refine blk_drewN ?_ _ | refine blk_drew ?_ | refine blk_alloc ?_ _)); refine blk_far ?_ NB599_628.out _; (with_reducible repeat (first | refine blk_drewN ?_ _ | refine blk_drew ?_ | refine blk_alloc ?_ _)); refine blk_far ?_ NB599_628.out _; (with_reducible repeat (first | refine blk_drewN ?_ _ | refine blk_drew ?_ | refine blk_alloc ?_ _)); exact BK599.out⟩, ⟨by (with_reducible repeat (first | refine blk_drewN ?_ _ | refine blk_drew ?_ | refine blk_alloc ?_ _)); refine blk_put (cs := #[.int .i64 t625, .int .i64 x609001_2]) ?_ 1 _ rfl; (with_reducible repeat (first | refine blk_drewN ?_ _ | refine blk_drew ?_ | refine blk_alloc ?_ _)); refine blk_put (cs := #[.int .i64 x609000_2, .int .i64 x609001_2]) ?_ 0 _ rfl; (with_reducible repeat (first | refine blk_drewN ?_ _ | refine blk_drew ?_ | refine blk_alloc ?_ _)); refine blk_far ?_ NB608_628.out _; (with_reducible repeat (first | refine blk_drewN ?_ _ | refine blk_drew ?_ | refine blk_alloc ?_ _)); refine blk_far ?_ NB608_628.out _; (with_reducible repeat (first | refine blk_drewN ?_ _ | refine blk_drew ?_ | refine blk_alloc ?_ _)); exact BK608.out⟩, ⟨spec_GetsOf.calls_q0⟩⟩
          ·replace c32 := Bool.eq_false_iff.mpr c32
           subst c32
           replace H := ifn_ H
           obtain ⟨y629, hy629⟩ : ∃ y_ : List (S36), y_ = (([] : List (S36))) := ⟨_, rfl⟩
           replace H : (some (y629, false)) = some (r1, r2) := by first | (rw [hy629]; with_reducible exact H) | (have H2_ := (Option.bind_some _ _).symm.trans H; rw [hy629]; with_reducible exact H2_) | (have H2_ := (Option.bind_some _ _).symm.trans H; with_reducible exact H2_) | with_reducible exact H | (rw [hy629]; exact H) | exact H
           have Ny629 := Aside0.mk hy629
           clear hy629
           simp only [Option.some.injEq, Prod.mk.injEq] at H
           obtain ⟨rfl, rfl⟩ := H
           obtain ⟨Ao62, co62, eo62⟩ := Kd.R_slice HO_7.out
           subst eo62
           have p612 : 0 ≤ (x10_2 : Int) := of_decide_eq_true (g1_)
           have q612 : x10_2 < (t604.length : Int) := of_decide_eq_true (g1_)
           obtain ⟨ad612, e612, hx612_0⟩ := Kd.at_int (Kd.R_reads' HO_7.out).2.2 x10_2 p612 q612
           cases e612
           replace p612 := eq_true p612
           replace q612 := eq_true q612
           try go_wp2
           replace HO_6 := Aside0.mk (Kd.R_drew HO_6.out)
           replace HO_7 := Aside0.mk (Kd.R_drew HO_7.out)
           replace BK599 := Aside0.mk (blk_drew BK599.out)
           replace BK608 := Aside0.mk (blk_drew BK608.out)
           replace HB := Aside0.mk (below_drew1 HB.out)
           have p613 : 0 ≤ (x10_2 : Int) := of_decide_eq_true (g1_)
           have q613 : x10_2 < (l0_1.length : Int) := of_decide_eq_true (g1_)
           obtain ⟨ad613, A613_0, c613_0, e613, hx613_0, hl613_0, hi613_0⟩ := at_L2 HR0_1.out x10_2 p613 q613
           have hw613_0 := hx613_0
           cases e613
           replace hx613_0 := cl_ HB hx613_0
           have HR613_0 := Aside0.mk hi613_0
           have HC613_0 := Aside0.mk hl613_0
           clear hi613_0 hl613_0
           replace p613 := eq_true p613
           replace q613 := eq_true q613
           have p614 : 0 ≤ (x8_1 : Int) := of_decide_eq_true (g1_)
           have q614 : x8_1 < ((rd_L2 l0_1 x10_2).length : Int) := of_decide_eq_true (g1_)
           obtain ⟨ad614, e614, hx614_0⟩ := Kd.at_int HR613_0.out x8_1 p614 q614
           have hw614_0 := hx614_0
           cases e614
           replace hx614_0 := cl_ HB hx614_0
           replace p614 := eq_true p614
           replace q614 := eq_true q614
           have p615 : 0 ≤ (x10_2 : Int) := of_decide_eq_true (g1_)
           have q615 : x10_2 < (t604.length : Int) := of_decide_eq_true (g1_)
           obtain ⟨ad615, e615, hx615_0⟩ := Kd.at_int (Kd.R_reads' HO_7.out).2.2 x10_2 p615 q615
           obtain rfl : ad612 = ad615 := (by injection e615)
           replace p615 := eq_true p615
           replace q615 := eq_true q615
           refine start_ (n := 19) (S := fun w' => w'.cell? ⟨gb599, 0, none⟩ = some (.slice (some ad607) l0_0.length c0_0) ∧ w'.cell? ⟨gb599, 1, none⟩ = some (.slice (some ad613) l0_1.length c0_1) ∧ w'.cell? (ad613.add (x10_2).toNat) = some (.slice (some ad614) (rd_L2 l0_1 x10_2).length c613_0) ∧ w'.cell? (ad614.add (x8_1).toNat) = some (.int .i64 (rd (rd_L2 l0_1 x10_2) x8_1)) ∧ w'.cell? (ad612.add (x10_2).toNat) = some (.int .i64 (rd t604 x10_2))) (ds := []) (tl_ 19 0) (g0_) rfl (g0_) ⟨(blk_cell BK599.out 0).trans rfl, (blk_cell BK599.out 1).trans rfl, ((cl_ HB hw613_0).trans rfl), ((cl_ HB hw614_0).trans rfl), hx615_0⟩ (fun hHeld => ?_); refine with_tabW spec_GetsOf.tab13 spec_GetsOf.bits13 (fun HT_ HW_ => ?_)
           generalize wr.drew = w63 at HO_6 HO_7 BK599 BK608 HB HR613_0 hx613_0 hx614_0 hx615_0 hHeld ⊢
           refine pw_ 0 49 (tl_ 19 1) rfl rfl ?_
           refine pw_ 2 51 (tl_ 19 5) rfl rfl ?_
           refine pw_ 5 54 (tl_ 19 37) rfl rfl ?_
           refine pw_ 8 57 (tl_ 19 293) rfl rfl ?_
           refine pw_ 9 58 (tl_ 19 805) rfl rfl ?_
           refine pw_ 10 59 (tl_ 19 1829) rfl rfl ?_
           refine tk5_ 1 50 (tl_ 19 1831) rfl rfl hHeld ?_
           refine pw_ 3 52 (tl_ 19 1839) rfl rfl ?_
           refine tk5_ 4 53 (tl_ 19 1855) rfl rfl hHeld ?_
           refine pw_ 6 55 (tl_ 19 1919) rfl rfl ?_
           refine tk5_ 7 56 (tl_ 19 2047) rfl rfl hHeld ?_
           refine tk5_ 11 60 (tl_ 19 4095) rfl rfl hHeld ?_
           refine join_ (σ := Nat) 2 (tl_ 19 131071) (fun s_ => [(61, .tuple #[.agg #[.int .i64 t616, .int .i64 t617], .bool t618]), (11, .pointer (some ⟨s_, 0, none⟩)), (48, .tuple #[.agg #[.int .i64 t616, .int .i64 t617], .bool t618]), (62, .agg #[.int .i64 t616, .int .i64 t617]), (63, .bool t618)]) (fun s_ w' => (w'.cell? ⟨gb599, 0, none⟩ = some (.slice (some ad607) l0_0.length c0_0) ∧ w'.cell? ⟨gb599, 1, none⟩ = some (.slice (some ad613) l0_1.length c0_1) ∧ w'.cell? (ad613.add (x10_2).toNat) = some (.slice (some ad614) (rd_L2 l0_1 x10_2).length c613_0) ∧ w'.cell? (ad614.add (x8_1).toNat) = some (.int .i64 (rd (rd_L2 l0_1 x10_2) x8_1)) ∧ w'.cell? (ad612.add (x10_2).toNat) = some (.int .i64 (rd t604 x10_2))) ∧ (Kd.R k36 36 w' w.heap.size (fun k_ => k_ ≠ gb608 ∧ k_ ≠ s_) u6 x6_1) ∧ (Kd.R (Kd.int .i64) 3 w' w.heap.size (fun _ => True) (.slice (some ad612) t604.length co62) t604) ∧ (w'.heap[gb599]? = some (.cells #[.slice (some ad607) l0_0.length c0_0, .slice (some ad613) l0_1.length c0_1] 26 (0, 0))) ∧ (w'.heap[gb608]? = some (.cells #[.int .i64 x609000_2, .int .i64 x609001_2] 36 (0, 0))) ∧ (w'.heap[s_]? = some (.cells #[.int .i64 0, .int .i64 0] 36 (0, 0))) ∧ (w.heap.size ≤ s_) ∧ (w.heap.size ≤ s_) ∧ (gb599 ≠ s_) ∧ (s_ ≠ gb599) ∧ (gb608 ≠ s_) ∧ (s_ ≠ gb608) ∧ (Below w.heap.size w w')) ?_ ?_
           rotate_left
           ·intro hCont
            refine two_ (i := 12) (j := 16) (Ni := some 61) (Nj := some 11) (tl_ 19 8191) (tl_ 19 69631) rfl rfl rfl rfl (two_of HT_.out (g0_)) (by decide) (by decide) (fun K hK => ?_) (fun K hK => ?_)
            ·skip
             refine goes_ Try.func74 (g0_) rfl #[.int .i64 (rd (rd_L2 l0_1 x10_2) x8_1), .int .i64 (rd t604 x10_2)] (by rfl) rfl rfl (g2_) ?_
             with_reducible refine (spec_FracOf.calls k2 (rd (rd_L2 l0_1 x10_2) x8_1) (rd t604 x10_2) t616 t617 t618 _ A28.out).mono ?_
             rintro e w64 ⟨rfl, hb⟩
             have HS4_ := (hb.cell (World.block_lt_of_cell? _ _ (hHeld.2.2.2.2))).trans (hHeld.2.2.2.2)
             refine ⟨_, rfl, ?_⟩
             replace HO_6 := Aside0.mk (Kd.R_below (uf1_ HO_6) hb)
             replace HO_7 := Aside0.mk (Kd.R_below (uf1_ HO_7) hb)
             replace BK599 := bb_ BK599 hb
             replace BK608 := bb_ BK608 hb
             replace HB := Aside0.mk (below_step (spec_GetsOf.calls_q0) hb)
             (try clear hb)
             (try clear hk hi)
             refine hK.out _ _ ⟨(blk_cell BK599.out 0).trans rfl, (blk_cell BK599.out 1).trans rfl, ((cl_ HB hw613_0).trans rfl), ((cl_ HB hw614_0).trans rfl), HS4_⟩ (fun hHeld => ?_)
             clear hK K
             refine nm_ ?_
             refine pw_ 13 48 (tl_ 19 16383) rfl rfl ?_
             refine pw_ 14 62 (tl_ 19 32767) rfl rfl ?_
             refine pw_ 15 63 (tl_ 19 65535) rfl rfl ?_
             refine one_ (i := 16) (N := some 11) (tl_ 19 131071) rfl rfl (one_of HT_.out (g0_)) (by decide) (fun K hK => ?_)
             refine bs_ (N := 11) #[.int .i64 0, .int .i64 0] 36 ?_
             intro gb619 hg w65 hbox hb
             have HS4_ := (hb.cell (World.block_lt_of_cell? _ _ (hHeld.2.2.2.2))).trans (hHeld.2.2.2.2)
             replace HO_6 := Aside0.mk (Kd.R_below (Kd.R_elderB (uf1_ HO_6) gb619 (Nat.le_of_eq hg.symm)) hb)
             replace HO_7 := Aside0.mk (Kd.R_below (uf1_ HO_7) hb)
             have BK619 := Aside0.mk (hbox)
             have GW619 := Aside0.mk ((g6_ : w.heap.size ≤ gb619))
             have GE619 := Aside0.mk ((g6_ : w.heap.size ≤ gb619))
             replace HB := Aside0.mk (below_step (spec_GetsOf.calls_q0) hb)
             have NB599_619 := Aside0.mk ((g25_ : gb599 ≠ gb619))
             have NB619_599 := Aside0.mk ((g26_ : gb619 ≠ gb599))
             replace BK599 := bb_ BK599 hb
             have NB608_619 := Aside0.mk ((g27_ : gb608 ≠ gb619))
             have NB619_608 := Aside0.mk ((g28_ : gb619 ≠ gb608))
             replace BK608 := bb_ BK608 hb
             clear hb hbox hg
             refine hK.out _ _ ⟨(blk_cell BK599.out 0).trans rfl, (blk_cell BK599.out 1).trans rfl, ((cl_ HB hw613_0).trans rfl), ((cl_ HB hw614_0).trans rfl), HS4_⟩ (fun hHeld => ?_)
             clear hK K
             refine nm_ ?_
             exact norm_ (g8_) (hCont (gb619) _ ⟨hHeld, (uf1_ HO_6), (uf1_ HO_7), (uf0_ BK599), (uf0_ BK608), (uf0_ BK619), GW619.out, GE619.out, NB599_619.out, NB619_599.out, NB608_619.out, NB619_608.out, (spec_GetsOf.calls_q0)⟩)
            ·skip
             refine bs_ (N := 11) #[.int .i64 0, .int .i64 0] 36 ?_
             intro gb619 hg w64 hbox hb
             have HS4_ := (hb.cell (World.block_lt_of_cell? _ _ (hHeld.2.2.2.2))).trans (hHeld.2.2.2.2)
             replace HO_6 := Aside0.mk (Kd.R_below (Kd.R_elderB (uf1_ HO_6) gb619 (Nat.le_of_eq hg.symm)) hb)
             replace HO_7 := Aside0.mk (Kd.R_below (uf1_ HO_7) hb)
             have BK619 := Aside0.mk (hbox)
             have GW619 := Aside0.mk ((g6_ : w.heap.size ≤ gb619))
             have GE619 := Aside0.mk ((g6_ : w.heap.size ≤ gb619))
             replace HB := Aside0.mk (below_step (spec_GetsOf.calls_q0) hb)
             have NB599_619 := Aside0.mk ((g25_ : gb599 ≠ gb619))
             have NB619_599 := Aside0.mk ((g26_ : gb619 ≠ gb599))
             replace BK599 := bb_ BK599 hb
             have NB608_619 := Aside0.mk ((g27_ : gb608 ≠ gb619))
             have NB619_608 := Aside0.mk ((g28_ : gb619 ≠ gb608))
             replace BK608 := bb_ BK608 hb
             clear hb hbox hg
             refine hK.out _ _ ⟨(blk_cell BK599.out 0).trans rfl, (blk_cell BK599.out 1).trans rfl, ((cl_ HB hw613_0).trans rfl), ((cl_ HB hw614_0).trans rfl), HS4_⟩ (fun hHeld => ?_)
             clear hK K
             refine nm_ ?_
             refine one_ (i := 12) (N := some 61) (tl_ 19 73727) rfl rfl (one_of HT_.out (g0_)) (by decide) (fun K hK => ?_)
             refine goes_ Try.func74 (g0_) rfl #[.int .i64 (rd (rd_L2 l0_1 x10_2) x8_1), .int .i64 (rd t604 x10_2)] (by rfl) rfl rfl (g2_) ?_
             with_reducible refine (spec_FracOf.calls k2 (rd (rd_L2 l0_1 x10_2) x8_1) (rd t604 x10_2) t616 t617 t618 _ A28.out).mono ?_
             rintro e w65 ⟨rfl, hb⟩
             have HS4_ := (hb.cell (World.block_lt_of_cell? _ _ (hHeld.2.2.2.2))).trans (hHeld.2.2.2.2)
             refine ⟨_, rfl, ?_⟩
             replace HO_6 := Aside0.mk (Kd.R_below (uf1_ HO_6) hb)
             replace HO_7 := Aside0.mk (Kd.R_below (uf1_ HO_7) hb)
             replace BK599 := bb_ BK599 hb
             replace BK608 := bb_ BK608 hb
             replace BK619 := bb_ BK619 hb
             replace HB := Aside0.mk (below_step (spec_GetsOf.calls_q0) hb)
             (try clear hb)
             (try clear hk hi)
             refine hK.out _ _ ⟨(blk_cell BK599.out 0).trans rfl, (blk_cell BK599.out 1).trans rfl, ((cl_ HB hw613_0).trans rfl), ((cl_ HB hw614_0).trans rfl), HS4_⟩ (fun hHeld => ?_)
             clear hK K
             refine nm_ ?_
             refine pw_ 13 48 (tl_ 19 81919) rfl rfl ?_
             refine pw_ 14 62 (tl_ 19 98303) rfl rfl ?_
             refine pw_ 15 63 (tl_ 19 131071) rfl rfl ?_
             exact norm_ (g8_) (hCont (gb619) _ ⟨hHeld, (uf1_ HO_6), (uf1_ HO_7), (uf0_ BK599), (uf0_ BK608), (uf0_ BK619), GW619.out, GE619.out, NB599_619.out, NB619_599.out, NB608_619.out, NB619_608.out, (spec_GetsOf.calls_q0)⟩)
           rintro gb619 w66 ⟨hS_, h0_, h1_, h2_, h3_, h4_, h5_, h6_, h7_, h8_, h9_, h10_, h11_⟩
           replace HO_6 : Aside0 (Kd.R k36 36 w66 w.heap.size (fun k_ => k_ ≠ gb608 ∧ k_ ≠ gb619) u6 x6_1) := ⟨h0_⟩
           replace HO_7 : Aside0 (Kd.R (Kd.int .i64) 3 w66 w.heap.size (fun _ => True) (.slice (some ad612) t604.length co62) t604) := ⟨h1_⟩
           replace BK599 : Aside0 (w66.heap[gb599]? = some (.cells #[.slice (some ad607) l0_0.length c0_0, .slice (some ad613) l0_1.length c0_1] 26 (0, 0))) := ⟨h2_⟩
           replace BK608 : Aside0 (w66.heap[gb608]? = some (.cells #[.int .i64 x609000_2, .int .i64 x609001_2] 36 (0, 0))) := ⟨h3_⟩
           have BK619 : Aside0 (w66.heap[gb619]? = some (.cells #[.int .i64 0, .int .i64 0] 36 (0, 0))) := ⟨h4_⟩
           have GW619 : Aside0 (w.heap.size ≤ gb619) := ⟨h5_⟩
           have GE619 : Aside0 (w.heap.size ≤ gb619) := ⟨h6_⟩
           have NB599_619 : Aside0 (gb599 ≠ gb619) := ⟨h7_⟩
           have NB619_599 : Aside0 (gb619 ≠ gb599) := ⟨h8_⟩
           have NB608_619 : Aside0 (gb608 ≠ gb619) := ⟨h9_⟩
           have NB619_608 : Aside0 (gb619 ≠ gb608) := ⟨h10_⟩
           replace HB : Aside0 (Below w.heap.size w w66) := ⟨h11_⟩
           clear h0_ h1_ h2_ h3_ h4_ h5_ h6_ h7_ h8_ h9_ h10_ h11_
           have hHeld : w66.cell? ⟨gb599, 0, none⟩ = some (.slice (some ad607) l0_0.length c0_0) ∧ w66.cell? ⟨gb599, 1, none⟩ = some (.slice (some ad613) l0_1.length c0_1) ∧ w66.cell? (ad613.add (x10_2).toNat) = some (.slice (some ad614) (rd_L2 l0_1 x10_2).length c613_0) ∧ w66.cell? (ad614.add (x8_1).toNat) = some (.int .i64 (rd (rd_L2 l0_1 x10_2) x8_1)) ∧ w66.cell? (ad612.add (x10_2).toNat) = some (.int .i64 (rd t604 x10_2)) := hS_
           refine norm_ (a' := ?_) ?_ ?_
           rotate_left
           ·simp only [putAll, Act.put, List.setIfInBounds_toArray, List.set_cons_zero, List.set_cons_succ]
            rfl
           refine one_ (i := 17) (N := none) (tl_ 19 262143) rfl rfl (one_of HT_.out (g0_)) (by decide) (fun K hK => ?_)
           have hs67 : w66.cell? ⟨gb619, 0, none⟩ = some (.int .i64 0) := (blk_cell BK619.out 0).trans rfl
           have hfs67 := blk_frozen BK619.out 0
           have hns67_0 := NB599_619.out
           have hns67_1 := NB608_619.out
           have hms67_0 := NB619_599.out
           have hms67_1 := NB619_608.out
           have hs68 : w66.cell? ⟨gb619, 1, none⟩ = some (.int .i64 0) := (blk_cell BK619.out 1).trans rfl
           have hfs68 := blk_frozen BK619.out 1
           have hns68_0 := NB599_619.out
           have hns68_1 := NB608_619.out
           have hms68_0 := NB619_599.out
           have hms68_1 := NB619_608.out
           refine skip_ (w1 := ?_) (by rfl) rfl ?_ ?_
           rotate_left
           ·go_simp
            rfl
           refine hK.out _ _ ⟨(cf_ NB599_619 ((cf_ NB599_619 (hHeld.1)))), (cf_ NB599_619 ((cf_ NB599_619 (hHeld.2.1)))), ((cell_far (p := ⟨gb619, _, none⟩) (by first | exact Nat.ne_of_lt (Nat.lt_of_lt_of_le (by have := World.block_lt_of_cell? _ _ hw613_0; first | rwa [add_block] at this | exact this) GW619.out) | (rw [add_block]; exact Nat.ne_of_lt (Nat.lt_of_lt_of_le (by have := World.block_lt_of_cell? _ _ hw613_0; first | rwa [add_block] at this | exact this) GW619.out)) | (show (Addr.add _ _).block ≠ _; rw [add_block]; exact Nat.ne_of_lt (Nat.lt_of_lt_of_le (by have := World.block_lt_of_cell? _ _ hw613_0; first | rwa [add_block] at this | exact this) GW619.out)) | (dsimp only; exact Nat.ne_of_lt (Nat.lt_of_lt_of_le (by have := World.block_lt_of_cell? _ _ hw613_0; first | rwa [add_block] at this | exact this) GW619.out))) _).trans (((cell_far (p := ⟨gb619, _, none⟩) (by first | exact Nat.ne_of_lt (Nat.lt_of_lt_of_le (by have := World.block_lt_of_cell? _ _ hw613_0; first | rwa [add_block] at this | exact this) GW619.out) | (rw [add_block]; exact Nat.ne_of_lt (Nat.lt_of_lt_of_le (by have := World.block_lt_of_cell? _ _ hw613_0; first | rwa [add_block] at this | exact this) GW619.out)) | (show (Addr.add _ _).block ≠ _; rw [add_block]; exact Nat.ne_of_lt (Nat.lt_of_lt_of_le (by have := World.block_lt_of_cell? _ _ hw613_0; first | rwa [add_block] at this | exact this) GW619.out)) | (dsimp only; exact Nat.ne_of_lt (Nat.lt_of_lt_of_le (by have := World.block_lt_of_cell? _ _ hw613_0; first | rwa [add_block] at this | exact this) GW619.out))) _).trans (hHeld.2.2.1)))), ((cell_far (p := ⟨gb619, _, none⟩) (by first | exact Nat.ne_of_lt (Nat.lt_of_lt_of_le (by have := World.block_lt_of_cell? _ _ hw614_0; first | rwa [add_block] at this | exact this) GW619.out) | (rw [add_block]; exact Nat.ne_of_lt (Nat.lt_of_lt_of_le (by have := World.block_lt_of_cell? _ _ hw614_0; first | rwa [add_block] at this | exact this) GW619.out)) | (show (Addr.add _ _).block ≠ _; rw [add_block]; exact Nat.ne_of_lt (Nat.lt_of_lt_of_le (by have := World.block_lt_of_cell? _ _ hw614_0; first | rwa [add_block] at this | exact this) GW619.out)) | (dsimp only; exact Nat.ne_of_lt (Nat.lt_of_lt_of_le (by have := World.block_lt_of_cell? _ _ hw614_0; first | rwa [add_block] at this | exact this) GW619.out))) _).trans (((cell_far (p := ⟨gb619, _, none⟩) (by first | exact Nat.ne_of_lt (Nat.lt_of_lt_of_le (by have := World.block_lt_of_cell? _ _ hw614_0; first | rwa [add_block] at this | exact this) GW619.out) | (rw [add_block]; exact Nat.ne_of_lt (Nat.lt_of_lt_of_le (by have := World.block_lt_of_cell? _ _ hw614_0; first | rwa [add_block] at this | exact this) GW619.out)) | (show (Addr.add _ _).block ≠ _; rw [add_block]; exact Nat.ne_of_lt (Nat.lt_of_lt_of_le (by have := World.block_lt_of_cell? _ _ hw614_0; first | rwa [add_block] at this | exact this) GW619.out)) | (dsimp only; exact Nat.ne_of_lt (Nat.lt_of_lt_of_le (by have := World.block_lt_of_cell? _ _ hw614_0; first | rwa [add_block] at this | exact this) GW619.out))) _).trans (hHeld.2.2.2.1)))), ((cell_far (p := ⟨gb619, _, none⟩) (g72_) _).trans (((cell_far (p := ⟨gb619, _, none⟩) (g72_) _).trans (hHeld.2.2.2.2))))⟩ (fun hHeld => ?_)
           clear hK K
           refine pw_ 18 12 (tl_ 19 524287) rfl rfl ?_
           refine done_ (done_of HT_.out (g0_)) ?_
           try go_wp2
           have n0_ : Aside0 (Kd.R k36 36 ((w66.setCell ⟨gb619, 0, none⟩ (.int .i64 t616)).setCell ⟨gb619, 1, none⟩ (.int .i64 t617)) w.heap.size (fun k_ => k_ ≠ gb608 ∧ k_ ≠ gb619) u6 x6_1) := ⟨g159_⟩
           have n1_ : Aside0 (Kd.R (Kd.int .i64) 3 ((w66.setCell ⟨gb619, 0, none⟩ (.int .i64 t616)).setCell ⟨gb619, 1, none⟩ (.int .i64 t617)) w.heap.size (fun _ => True) (.slice (some ad612) t604.length co62) t604) := ⟨g160_⟩
           have n2_ : Aside0 (((w66.setCell ⟨gb619, 0, none⟩ (.int .i64 t616)).setCell ⟨gb619, 1, none⟩ (.int .i64 t617)).heap[gb599]? = some (.cells #[.slice (some ad607) l0_0.length c0_0, .slice (some ad613) l0_1.length c0_1] 26 (0, 0))) := ⟨g161_⟩
           have n3_ : Aside0 (((w66.setCell ⟨gb619, 0, none⟩ (.int .i64 t616)).setCell ⟨gb619, 1, none⟩ (.int .i64 t617)).heap[gb608]? = some (.cells #[.int .i64 x609000_2, .int .i64 x609001_2] 36 (0, 0))) := ⟨g162_⟩
           have n4_ : Aside0 (((w66.setCell ⟨gb619, 0, none⟩ (.int .i64 t616)).setCell ⟨gb619, 1, none⟩ (.int .i64 t617)).heap[gb619]? = some (.cells #[.int .i64 t616, .int .i64 t617] 36 (0, 0))) := ⟨g163_⟩
           have n5_ : Aside0 (Below w.heap.size w ((w66.setCell ⟨gb619, 0, none⟩ (.int .i64 t616)).setCell ⟨gb619, 1, none⟩ (.int .i64 t617))) := ⟨spec_GetsOf.calls_q0⟩
           (try clear HO_6)
           (try clear HO_7)
           (try clear BK599)
           (try clear BK608)
           (try clear BK619)
           (try clear HB)
           generalize ((w66.setCell ⟨gb619, 0, none⟩ (.int .i64 t616)).setCell ⟨gb619, 1, none⟩ (.int .i64 t617)) = w69 at n0_ n1_ n2_ n3_ n4_ n5_ ⊢
           have HO_6 := n0_
           have HO_7 := n1_
           have BK599 := n2_
           have BK608 := n3_
           have BK619 := n4_
           have HB := n5_
           clear n0_ n1_ n2_ n3_ n4_ n5_
           replace HO_6 := Aside0.mk (Kd.R_drew HO_6.out)
           replace HO_7 := Aside0.mk (Kd.R_drew HO_7.out)
           replace BK599 := Aside0.mk (blk_drew BK599.out)
           replace BK608 := Aside0.mk (blk_drew BK608.out)
           replace BK619 := Aside0.mk (blk_drew BK619.out)
           replace HB := Aside0.mk (below_drew1 HB.out)
           have p620 : 0 ≤ (x10_2 : Int) := of_decide_eq_true (g1_)
           have q620 : x10_2 < (l1.length : Int) := of_decide_eq_true (g1_)
           obtain ⟨ad620, e620, hx620_0, hx620_1⟩ := at_T36 HR1.out x10_2 p620 q620
           have hw620_1 := hx620_1
           have hw620_0 := hx620_0
           cases e620
           replace hx620_0 := cl_ HB hx620_0
           replace hx620_1 := cl_ HB hx620_1
           replace p620 := eq_true p620
           replace q620 := eq_true q620
           refine start_ (n := 12) (S := fun w' => w'.cell? ⟨gb619, 0, none⟩ = some (.int .i64 t616) ∧ w'.cell? ⟨gb619, 1, none⟩ = some (.int .i64 t617) ∧ w'.cell? (ad620.add ((x10_2).toNat * 2)) = some (.int .i64 ((rd_T36 l1 x10_2).f0)) ∧ w'.cell? ⟨(ad620.add ((x10_2).toNat * 2)).block, (ad620.add ((x10_2).toNat * 2)).off + 1, none⟩ = some (.int .i64 ((rd_T36 l1 x10_2).f1))) (ds := []) (tl_ 12 0) (g0_) rfl (g0_) ⟨(blk_cell BK619.out 0).trans rfl, (blk_cell BK619.out 1).trans rfl, ((cl_ HB hw620_0).trans rfl), ((cl_ HB hw620_1).trans rfl)⟩ (fun hHeld => ?_); refine with_tabW spec_GetsOf.tab14 spec_GetsOf.bits14 (fun HT_ HW_ => ?_)
           generalize w69.drew = w70 at HO_6 HO_7 BK599 BK608 BK619 HB hx620_0 hx620_1 hHeld ⊢
           refine pw_ 0 65 (tl_ 12 1) rfl rfl ?_
           refine pw_ 1 66 (tl_ 12 3) rfl rfl ?_
           refine pw_ 2 67 (tl_ 12 7) rfl rfl ?_
           refine tk3_ 3 68 (tl_ 12 15) rfl rfl hHeld ?_
           refine tk3_ 4 69 (tl_ 12 31) rfl rfl hHeld ?_
           refine join_ (σ := Nat) 2 (tl_ 12 1023) (fun s_ => [(70, .tuple #[.agg #[.int .i64 t621, .int .i64 t622], .bool true]), (13, .pointer (some ⟨s_, 0, none⟩)), (64, .tuple #[.agg #[.int .i64 t621, .int .i64 t622], .bool true]), (71, .agg #[.int .i64 t621, .int .i64 t622]), (72, .bool true)]) (fun s_ w' => (w'.cell? ⟨gb619, 0, none⟩ = some (.int .i64 t616) ∧ w'.cell? ⟨gb619, 1, none⟩ = some (.int .i64 t617) ∧ w'.cell? (ad620.add ((x10_2).toNat * 2)) = some (.int .i64 ((rd_T36 l1 x10_2).f0)) ∧ w'.cell? ⟨(ad620.add ((x10_2).toNat * 2)).block, (ad620.add ((x10_2).toNat * 2)).off + 1, none⟩ = some (.int .i64 ((rd_T36 l1 x10_2).f1))) ∧ (Kd.R k36 36 w' w.heap.size (fun k_ => k_ ≠ gb608 ∧ k_ ≠ gb619 ∧ k_ ≠ s_) u6 x6_1) ∧ (Kd.R (Kd.int .i64) 3 w' w.heap.size (fun _ => True) (.slice (some ad612) t604.length co62) t604) ∧ (w'.heap[gb599]? = some (.cells #[.slice (some ad607) l0_0.length c0_0, .slice (some ad613) l0_1.length c0_1] 26 (0, 0))) ∧ (w'.heap[gb608]? = some (.cells #[.int .i64 x609000_2, .int .i64 x609001_2] 36 (0, 0))) ∧ (w'.heap[gb619]? = some (.cells #[.int .i64 t616, .int .i64 t617] 36 (0, 0))) ∧ (w'.heap[s_]? = some (.cells #[.int .i64 0, .int .i64 0] 36 (0, 0))) ∧ (w.heap.size ≤ s_) ∧ (w.heap.size ≤ s_) ∧ (gb599 ≠ s_) ∧ (s_ ≠ gb599) ∧ (gb608 ≠ s_) ∧ (s_ ≠ gb608) ∧ (gb619 ≠ s_) ∧ (s_ ≠ gb619) ∧ (Below w.heap.size w w')) ?_ ?_
           rotate_left
           ·intro hCont
            refine two_ (i := 5) (j := 9) (Ni := some 70) (Nj := some 13) (tl_ 12 63) (tl_ 12 543) rfl rfl rfl rfl (two_of HT_.out (g0_)) (by decide) (by decide) (fun K hK => ?_) (fun K hK => ?_)
            ·skip
             refine goes_ Try.func75 (g0_) rfl #[.agg #[.int .i64 ((rd_T36 l1 x10_2).f0), .int .i64 ((rd_T36 l1 x10_2).f1)], .agg #[.int .i64 t616, .int .i64 t617]] (by rfl) rfl rfl (g2_) ?_
             with_reducible refine (spec_TimesOf.calls k2 ((rd_T36 l1 x10_2).f0) ((rd_T36 l1 x10_2).f1) t616 t617 t621 t622 true _ A29.out).mono ?_
             rintro e w71 ⟨rfl, hb⟩
             refine ⟨_, rfl, ?_⟩
             replace HO_6 := Aside0.mk (Kd.R_below (uf1_ HO_6) hb)
             replace HO_7 := Aside0.mk (Kd.R_below (uf1_ HO_7) hb)
             replace BK599 := bb_ BK599 hb
             replace BK608 := bb_ BK608 hb
             replace BK619 := bb_ BK619 hb
             replace HB := Aside0.mk (below_step (spec_GetsOf.calls_q0) hb)
             (try clear hb)
             (try clear hk hi)
             refine hK.out _ _ ⟨(blk_cell BK619.out 0).trans rfl, (blk_cell BK619.out 1).trans rfl, ((cl_ HB hw620_0).trans rfl), ((cl_ HB hw620_1).trans rfl)⟩ (fun hHeld => ?_)
             clear hK K
             refine nm_ ?_
             refine pw_ 6 64 (tl_ 12 127) rfl rfl ?_
             refine pw_ 7 71 (tl_ 12 255) rfl rfl ?_
             refine pw_ 8 72 (tl_ 12 511) rfl rfl ?_
             refine one_ (i := 9) (N := some 13) (tl_ 12 1023) rfl rfl (one_of HT_.out (g0_)) (by decide) (fun K hK => ?_)
             refine bs_ (N := 13) #[.int .i64 0, .int .i64 0] 36 ?_
             intro gb624 hg w72 hbox hb
             replace HO_6 := Aside0.mk (Kd.R_below (Kd.R_elderB (uf1_ HO_6) gb624 (Nat.le_of_eq hg.symm)) hb)
             replace HO_7 := Aside0.mk (Kd.R_below (uf1_ HO_7) hb)
             have BK624 := Aside0.mk (hbox)
             have GW624 := Aside0.mk ((g6_ : w.heap.size ≤ gb624))
             have GE624 := Aside0.mk ((g6_ : w.heap.size ≤ gb624))
             replace HB := Aside0.mk (below_step (spec_GetsOf.calls_q0) hb)
             have NB599_624 := Aside0.mk ((g25_ : gb599 ≠ gb624))
             have NB624_599 := Aside0.mk ((g26_ : gb624 ≠ gb599))
             replace BK599 := bb_ BK599 hb
             have NB608_624 := Aside0.mk ((g27_ : gb608 ≠ gb624))
             have NB624_608 := Aside0.mk ((g28_ : gb624 ≠ gb608))
             replace BK608 := bb_ BK608 hb
             have NB619_624 := Aside0.mk ((g39_ : gb619 ≠ gb624))
             have NB624_619 := Aside0.mk ((g40_ : gb624 ≠ gb619))
             replace BK619 := bb_ BK619 hb
             clear hb hbox hg
             refine hK.out _ _ ⟨(blk_cell BK619.out 0).trans rfl, (blk_cell BK619.out 1).trans rfl, ((cl_ HB hw620_0).trans rfl), ((cl_ HB hw620_1).trans rfl)⟩ (fun hHeld => ?_)
             clear hK K
             refine nm_ ?_
             exact norm_ (g8_) (hCont (gb624) _ ⟨hHeld, (g73_), (uf1_ HO_7), (uf0_ BK599), (uf0_ BK608), (uf0_ BK619), (uf0_ BK624), GW624.out, GE624.out, NB599_624.out, NB624_599.out, NB608_624.out, NB624_608.out, NB619_624.out, NB624_619.out, (spec_GetsOf.calls_q0)⟩)
            ·skip
             refine bs_ (N := 13) #[.int .i64 0, .int .i64 0] 36 ?_
             intro gb624 hg w71 hbox hb
             replace HO_6 := Aside0.mk (Kd.R_below (Kd.R_elderB (uf1_ HO_6) gb624 (Nat.le_of_eq hg.symm)) hb)
             replace HO_7 := Aside0.mk (Kd.R_below (uf1_ HO_7) hb)
             have BK624 := Aside0.mk (hbox)
             have GW624 := Aside0.mk ((g6_ : w.heap.size ≤ gb624))
             have GE624 := Aside0.mk ((g6_ : w.heap.size ≤ gb624))
             replace HB := Aside0.mk (below_step (spec_GetsOf.calls_q0) hb)
             have NB599_624 := Aside0.mk ((g25_ : gb599 ≠ gb624))
             have NB624_599 := Aside0.mk ((g26_ : gb624 ≠ gb599))
             replace BK599 := bb_ BK599 hb
             have NB608_624 := Aside0.mk ((g27_ : gb608 ≠ gb624))
             have NB624_608 := Aside0.mk ((g28_ : gb624 ≠ gb608))
             replace BK608 := bb_ BK608 hb
             have NB619_624 := Aside0.mk ((g39_ : gb619 ≠ gb624))
             have NB624_619 := Aside0.mk ((g40_ : gb624 ≠ gb619))
             replace BK619 := bb_ BK619 hb
             clear hb hbox hg
             refine hK.out _ _ ⟨(blk_cell BK619.out 0).trans rfl, (blk_cell BK619.out 1).trans rfl, ((cl_ HB hw620_0).trans rfl), ((cl_ HB hw620_1).trans rfl)⟩ (fun hHeld => ?_)
             clear hK K
             refine nm_ ?_
             refine one_ (i := 5) (N := some 70) (tl_ 12 575) rfl rfl (one_of HT_.out (g0_)) (by decide) (fun K hK => ?_)
             refine goes_ Try.func75 (g0_) rfl #[.agg #[.int .i64 ((rd_T36 l1 x10_2).f0), .int .i64 ((rd_T36 l1 x10_2).f1)], .agg #[.int .i64 t616, .int .i64 t617]] (by rfl) rfl rfl (g2_) ?_
             with_reducible refine (spec_TimesOf.calls k2 ((rd_T36 l1 x10_2).f0) ((rd_T36 l1 x10_2).f1) t616 t617 t621 t622 true _ A29.out).mono ?_
             rintro e w72 ⟨rfl, hb⟩
             refine ⟨_, rfl, ?_⟩
             replace HO_6 := Aside0.mk (Kd.R_below (uf1_ HO_6) hb)
             replace HO_7 := Aside0.mk (Kd.R_below (uf1_ HO_7) hb)
             replace BK599 := bb_ BK599 hb
             replace BK608 := bb_ BK608 hb
             replace BK619 := bb_ BK619 hb
             replace BK624 := bb_ BK624 hb
             replace HB := Aside0.mk (below_step (spec_GetsOf.calls_q0) hb)
             (try clear hb)
             (try clear hk hi)
             refine hK.out _ _ ⟨(blk_cell BK619.out 0).trans rfl, (blk_cell BK619.out 1).trans rfl, ((cl_ HB hw620_0).trans rfl), ((cl_ HB hw620_1).trans rfl)⟩ (fun hHeld => ?_)
             clear hK K
             refine nm_ ?_
             refine pw_ 6 64 (tl_ 12 639) rfl rfl ?_
             refine pw_ 7 71 (tl_ 12 767) rfl rfl ?_
             refine pw_ 8 72 (tl_ 12 1023) rfl rfl ?_
             exact norm_ (g8_) (hCont (gb624) _ ⟨hHeld, (g73_), (uf1_ HO_7), (uf0_ BK599), (uf0_ BK608), (uf0_ BK619), (uf0_ BK624), GW624.out, GE624.out, NB599_624.out, NB624_599.out, NB608_624.out, NB624_608.out, NB619_624.out, NB624_619.out, (spec_GetsOf.calls_q0)⟩)
           rintro gb624 w73 ⟨hS_, h0_, h1_, h2_, h3_, h4_, h5_, h6_, h7_, h8_, h9_, h10_, h11_, h12_, h13_, h14_⟩
           replace HO_6 : Aside0 (Kd.R k36 36 w73 w.heap.size (fun k_ => k_ ≠ gb608 ∧ k_ ≠ gb619 ∧ k_ ≠ gb624) u6 x6_1) := ⟨h0_⟩
           replace HO_7 : Aside0 (Kd.R (Kd.int .i64) 3 w73 w.heap.size (fun _ => True) (.slice (some ad612) t604.length co62) t604) := ⟨h1_⟩
           replace BK599 : Aside0 (w73.heap[gb599]? = some (.cells #[.slice (some ad607) l0_0.length c0_0, .slice (some ad613) l0_1.length c0_1] 26 (0, 0))) := ⟨h2_⟩
           replace BK608 : Aside0 (w73.heap[gb608]? = some (.cells #[.int .i64 x609000_2, .int .i64 x609001_2] 36 (0, 0))) := ⟨h3_⟩
           replace BK619 : Aside0 (w73.heap[gb619]? = some (.cells #[.int .i64 t616, .int .i64 t617] 36 (0, 0))) := ⟨h4_⟩
           have BK624 : Aside0 (w73.heap[gb624]? = some (.cells #[.int .i64 0, .int .i64 0] 36 (0, 0))) := ⟨h5_⟩
           have GW624 : Aside0 (w.heap.size ≤ gb624) := ⟨h6_⟩
           have GE624 : Aside0 (w.heap.size ≤ gb624) := ⟨h7_⟩
           have NB599_624 : Aside0 (gb599 ≠ gb624) := ⟨h8_⟩
           have NB624_599 : Aside0 (gb624 ≠ gb599) := ⟨h9_⟩
           have NB608_624 : Aside0 (gb608 ≠ gb624) := ⟨h10_⟩
           have NB624_608 : Aside0 (gb624 ≠ gb608) := ⟨h11_⟩
           have NB619_624 : Aside0 (gb619 ≠ gb624) := ⟨h12_⟩
           have NB624_619 : Aside0 (gb624 ≠ gb619) := ⟨h13_⟩
           replace HB : Aside0 (Below w.heap.size w w73) := ⟨h14_⟩
           clear h0_ h1_ h2_ h3_ h4_ h5_ h6_ h7_ h8_ h9_ h10_ h11_ h12_ h13_ h14_
           have hHeld : w73.cell? ⟨gb619, 0, none⟩ = some (.int .i64 t616) ∧ w73.cell? ⟨gb619, 1, none⟩ = some (.int .i64 t617) ∧ w73.cell? (ad620.add ((x10_2).toNat * 2)) = some (.int .i64 ((rd_T36 l1 x10_2).f0)) ∧ w73.cell? ⟨(ad620.add ((x10_2).toNat * 2)).block, (ad620.add ((x10_2).toNat * 2)).off + 1, none⟩ = some (.int .i64 ((rd_T36 l1 x10_2).f1)) := hS_
           refine norm_ (a' := ?_) ?_ ?_
           rotate_left
           ·simp only [putAll, Act.put, List.setIfInBounds_toArray, List.set_cons_zero, List.set_cons_succ]
            rfl
           refine one_ (i := 10) (N := none) (tl_ 12 2047) rfl rfl (one_of HT_.out (g0_)) (by decide) (fun K hK => ?_)
           have hs74 : w73.cell? ⟨gb624, 0, none⟩ = some (.int .i64 0) := (blk_cell BK624.out 0).trans rfl
           have hfs74 := blk_frozen BK624.out 0
           have hns74_0 := NB599_624.out
           have hns74_1 := NB608_624.out
           have hns74_2 := NB619_624.out
           have hms74_0 := NB624_599.out
           have hms74_1 := NB624_608.out
           have hms74_2 := NB624_619.out
           have hs75 : w73.cell? ⟨gb624, 1, none⟩ = some (.int .i64 0) := (blk_cell BK624.out 1).trans rfl
           have hfs75 := blk_frozen BK624.out 1
           have hns75_0 := NB599_624.out
           have hns75_1 := NB608_624.out
           have hns75_2 := NB619_624.out
           have hms75_0 := NB624_599.out
           have hms75_1 := NB624_608.out
           have hms75_2 := NB624_619.out
           refine skip_ (w1 := ?_) (by rfl) rfl ?_ ?_
           rotate_left
           ·go_simp
            rfl
           refine hK.out _ _ ⟨(cf_ NB619_624 ((cf_ NB619_624 (hHeld.1)))), (cf_ NB619_624 ((cf_ NB619_624 (hHeld.2.1)))), ((cell_far (p := ⟨gb624, _, none⟩) (by first | exact Nat.ne_of_lt (Nat.lt_of_lt_of_le (by have := World.block_lt_of_cell? _ _ hw620_0; first | rwa [add_block] at this | exact this) GW624.out) | (rw [add_block]; exact Nat.ne_of_lt (Nat.lt_of_lt_of_le (by have := World.block_lt_of_cell? _ _ hw620_0; first | rwa [add_block] at this | exact this) GW624.out)) | (show (Addr.add _ _).block ≠ _; rw [add_block]; exact Nat.ne_of_lt (Nat.lt_of_lt_of_le (by have := World.block_lt_of_cell? _ _ hw620_0; first | rwa [add_block] at this | exact this) GW624.out)) | (dsimp only; exact Nat.ne_of_lt (Nat.lt_of_lt_of_le (by have := World.block_lt_of_cell? _ _ hw620_0; first | rwa [add_block] at this | exact this) GW624.out))) _).trans (((cell_far (p := ⟨gb624, _, none⟩) (by first | exact Nat.ne_of_lt (Nat.lt_of_lt_of_le (by have := World.block_lt_of_cell? _ _ hw620_0; first | rwa [add_block] at this | exact this) GW624.out) | (rw [add_block]; exact Nat.ne_of_lt (Nat.lt_of_lt_of_le (by have := World.block_lt_of_cell? _ _ hw620_0; first | rwa [add_block] at this | exact this) GW624.out)) | (show (Addr.add _ _).block ≠ _; rw [add_block]; exact Nat.ne_of_lt (Nat.lt_of_lt_of_le (by have := World.block_lt_of_cell? _ _ hw620_0; first | rwa [add_block] at this | exact this) GW624.out)) | (dsimp only; exact Nat.ne_of_lt (Nat.lt_of_lt_of_le (by have := World.block_lt_of_cell? _ _ hw620_0; first | rwa [add_block] at this | exact this) GW624.out))) _).trans (hHeld.2.2.1)))), ((cell_far (p := ⟨gb624, _, none⟩) (by first | exact Nat.ne_of_lt (Nat.lt_of_lt_of_le (by have := World.block_lt_of_cell? _ _ hw620_1; first | rwa [add_block] at this | exact this) GW624.out) | (rw [add_block]; exact Nat.ne_of_lt (Nat.lt_of_lt_of_le (by have := World.block_lt_of_cell? _ _ hw620_1; first | rwa [add_block] at this | exact this) GW624.out)) | (show (Addr.add _ _).block ≠ _; rw [add_block]; exact Nat.ne_of_lt (Nat.lt_of_lt_of_le (by have := World.block_lt_of_cell? _ _ hw620_1; first | rwa [add_block] at this | exact this) GW624.out)) | (dsimp only; exact Nat.ne_of_lt (Nat.lt_of_lt_of_le (by have := World.block_lt_of_cell? _ _ hw620_1; first | rwa [add_block] at this | exact this) GW624.out))) _).trans (((cell_far (p := ⟨gb624, _, none⟩) (by first | exact Nat.ne_of_lt (Nat.lt_of_lt_of_le (by have := World.block_lt_of_cell? _ _ hw620_1; first | rwa [add_block] at this | exact this) GW624.out) | (rw [add_block]; exact Nat.ne_of_lt (Nat.lt_of_lt_of_le (by have := World.block_lt_of_cell? _ _ hw620_1; first | rwa [add_block] at this | exact this) GW624.out)) | (show (Addr.add _ _).block ≠ _; rw [add_block]; exact Nat.ne_of_lt (Nat.lt_of_lt_of_le (by have := World.block_lt_of_cell? _ _ hw620_1; first | rwa [add_block] at this | exact this) GW624.out)) | (dsimp only; exact Nat.ne_of_lt (Nat.lt_of_lt_of_le (by have := World.block_lt_of_cell? _ _ hw620_1; first | rwa [add_block] at this | exact this) GW624.out))) _).trans (hHeld.2.2.2))))⟩ (fun hHeld => ?_)
           clear hK K
           refine pw_ 11 14 (tl_ 12 4095) rfl rfl ?_
           refine done_ (done_of HT_.out (g0_)) ?_
           have hnb76 := NB608_599.out
           have hnc76 := NB599_608.out
           have hnb77 := NB608_619.out
           have hnc77 := NB619_608.out
           have hnb78 := NB608_624.out
           have hnc78 := NB624_608.out
           obtain ⟨hcz79_0, hcz79_1, hfz79_0, hfz79_1⟩ := blk2_ BK608
           have hnb80 := NB624_599.out
           have hnc80 := NB599_624.out
           have hnb81 := NB624_619.out
           have hnc81 := NB619_624.out
           obtain ⟨hcz82_0, hcz82_1, hfz82_0, hfz82_1⟩ := blk2_ BK624
           try go_wp2_with (first | ((with_reducible refine gate_callee (f := 76) rfl ?_); refine goesL_ (some 76) rfl rfl Try.func76 k_ rfl #[.agg #[.int .i64 x609000_2, .int .i64 x609001_2], .agg #[.int .i64 t621, .int .i64 t622]] rfl (g2_) ?_; (with_reducible refine (spec_PlusOf.calls k2 x609000_2 x609001_2 t621 t622 t625 t626 false _ A30.out).mono ?_); rintro e w83 ⟨rfl, hb⟩; refine ⟨_, rfl, ?_⟩; replace HO_6 := Aside0.mk (Kd.R_below (g164_) hb); replace HO_7 := Aside0.mk (Kd.R_below (g165_) hb); replace BK599 := Aside0.mk (blk_below (g := gb599) (o := .cells #[.slice (some ad607) l0_0.length c0_0, .slice (some ad613) l0_1.length c0_1] 26 (0, 0)) (g166_) hb); replace BK608 := Aside0.mk (blk_below (g := gb608) (o := .cells #[.int .i64 x609000_2, .int .i64 x609001_2] 36 (0, 0)) (g167_) hb); replace BK619 := Aside0.mk (blk_below (g := gb619) (o := .cells #[.int .i64 t616, .int .i64 t617] 36 (0, 0)) (g168_) hb); replace BK624 := Aside0.mk (blk_below (g := gb624) (o := .cells #[.int .i64 t621, .int .i64 t622] 36 (0, 0)) (g169_) hb); replace HB := Aside0.mk (below_step (spec_GetsOf.calls_q0) hb); (try clear hb); (try clear hk hi)) | ((with_reducible refine gate_dst (N := 15) rfl ?_); refine bx_ (N := 15) #[.int .i64 0, .int .i64 0] 36 ?_; intro gb628 hg w84 hbox hb; replace HO_6 := Aside0.mk (Kd.R_below (Kd.R_elderB (uf1_ HO_6) gb628 (Nat.le_of_eq hg.symm)) hb); replace HO_7 := Aside0.mk (Kd.R_below (uf1_ HO_7) hb); have BK628 := Aside0.mk (hbox); have GW628 := Aside0.mk ((g6_ : w.heap.size ≤ gb628)); have GE628 := Aside0.mk ((g6_ : w.heap.size ≤ gb628)); replace HB := Aside0.mk (below_step (spec_GetsOf.calls_q0) hb); have NB599_628 := Aside0.mk ((g25_ : gb599 ≠ gb628)); have NB628_599 := Aside0.mk ((g26_ : gb628 ≠ gb599)); replace BK599 := bb_ BK599 hb; have NB608_628 := Aside0.mk ((g27_ : gb608 ≠ gb628)); have NB628_608 := Aside0.mk ((g28_ : gb628 ≠ gb608)); replace BK608 := bb_ BK608 hb; have NB619_628 := Aside0.mk ((g39_ : gb619 ≠ gb628)); have NB628_619 := Aside0.mk ((g40_ : gb628 ≠ gb619)); replace BK619 := bb_ BK619 hb; have NB624_628 := Aside0.mk ((g170_ : gb624 ≠ gb628)); have NB628_624 := Aside0.mk ((g171_ : gb628 ≠ gb624)); replace BK624 := bb_ BK624 hb; clear hb hbox hg; have hnb85 := NB628_599.out; have hnc85 := NB599_628.out; have hnb86 := NB628_608.out; have hnc86 := NB608_628.out; have hnb87 := NB628_619.out; have hnc87 := NB619_628.out; have hnb88 := NB628_624.out; have hnc88 := NB624_628.out; obtain ⟨hcz89_0, hcz89_1, hfz89_0, hfz89_1⟩ := blk2_ BK628) | ((with_reducible refine gate_dst (N := 85) rfl ?_); refine Kd.R_lit k36 _ 36 ?hg (N := 85) ?hd (xs := ([] : List (S36))) (inner := []) (ok := fun _ => True) (okp := fun _ => True) ?hr ?hp (fun _ hk => hk) trivial (Below.refl _ _) (Nat.le_refl _) (by simp) ?_; (case hd => rfl); (case hg => rfl); (case hr => first | (go_simp; done) | (go_simp; rfl)); (case hp => exact (Reps.none _ _)); intro v630 w90 ho91 hb hg_ hnew_; clear hg_ hnew_; (first | rw [← Ny629.out] at ho91 | (simp only [Int.reduceToNat] at ho91; rw [← Ny629.out] at ho91)); replace HO_7 := Aside0.mk (Kd.R_below (by (with_reducible repeat (first | apply Kd.R_alloc | apply Kd.R_drewN | apply Kd.R_drew)); exact (Kd.R_mono (Kd.R_far (p := ⟨gb628, 1, none⟩) (Kd.R_far (p := ⟨gb628, 0, none⟩) (Kd.R_types HO_7.out BK628.out (by decide)) (fun _ hk => hk.2) (.int .i64 t625)) (fun _ hk => hk.2) (.int .i64 t626)) (fun _ h_ => h_.1))) hb); have HO631 := Aside0.mk (Kd.R_lower (Kd.R_newB (Kd.R_newB (Kd.R_newB (Kd.R_newB (Kd.R_new' ho91 (Kd.R_lt (g101_))) (g := gb608) (o := .cells #[.int .i64 x609000_2, .int .i64 x609001_2] 36 (0, 0)) (g102_)) (g := gb619) (o := .cells #[.int .i64 t616, .int .i64 t617] 36 (0, 0)) (g103_)) (g := gb624) (o := .cells #[.int .i64 t621, .int .i64 t622] 36 (0, 0)) (g104_)) (g := gb628) (o := .cells #[.int .i64 t625, .int .i64 t626] 36 (0, 0)) (g105_)) (below_size (spec_GetsOf.calls_q0))); replace HO_6 := Aside0.mk (Kd.R_elder' (g101_) (Kd.R_base ho91) hb); replace BK599 := Aside0.mk (blk_below (g := gb599) (o := .cells #[.slice (some ad607) l0_0.length c0_0, .slice (some ad613) l0_1.length c0_1] 26 (0, 0)) (by (with_reducible repeat (first | refine blk_drewN ?_ _ | refine blk_drew ?_ | refine blk_alloc ?_ _)); refine blk_far ?_ NB599_628.out _; (with_reducible repeat (first | refine blk_drewN ?_ _ | refine blk_drew ?_ | refine blk_alloc ?_ _)); refine blk_far ?_ NB599_628.out _; (with_reducible repeat (first | refine blk_drewN ?_ _ | refine blk_drew ?_ | refine blk_alloc ?_ _)); exact BK599.out) hb); replace BK608 := Aside0.mk (blk_below (g := gb608) (o := .cells #[.int .i64 x609000_2, .int .i64 x609001_2] 36 (0, 0)) (g102_) hb); replace BK619 := Aside0.mk (blk_below (g := gb619) (o := .cells #[.int .i64 t616, .int .i64 t617] 36 (0, 0)) (g103_) hb); replace BK624 := Aside0.mk (blk_below (g := gb624) (o := .cells #[.int .i64 t621, .int .i64 t622] 36 (0, 0)) (g104_) hb); replace BK628 := Aside0.mk (blk_below (g := gb628) (o := .cells #[.int .i64 t625, .int .i64 t626] 36 (0, 0)) (g105_) hb); replace HB := Aside0.mk (below_step (spec_GetsOf.calls_q0) hb); clear hb ho91))
           go_ret2
           exact ⟨_, g4_, by (with_reducible repeat (first | apply Kd.R_alloc | apply Kd.R_drewN | apply Kd.R_drew)); exact Kd.R_mono HO631.out (fun _ hk => trivial), spec_GetsOf.calls_q0⟩
         ·replace c31 := Bool.eq_false_iff.mpr c31
          subst c31
          replace H := ifn_ H
          obtain ⟨y632, hy632⟩ : ∃ y_ : List (S36), y_ = (([] : List (S36))) := ⟨_, rfl⟩
          replace H : (some (y632, false)) = some (r1, r2) := by first | (rw [hy632]; with_reducible exact H) | (have H2_ := (Option.bind_some _ _).symm.trans H; rw [hy632]; with_reducible exact H2_) | (have H2_ := (Option.bind_some _ _).symm.trans H; with_reducible exact H2_) | with_reducible exact H | (rw [hy632]; exact H) | exact H
          have Ny632 := Aside0.mk hy632
          clear hy632
          simp only [Option.some.injEq, Prod.mk.injEq] at H
          obtain ⟨rfl, rfl⟩ := H
          obtain ⟨Ao92, co92, eo92⟩ := Kd.R_slice HO_7.out
          subst eo92
          have p612 : 0 ≤ (x10_2 : Int) := of_decide_eq_true (g1_)
          have q612 : x10_2 < (t604.length : Int) := of_decide_eq_true (g1_)
          obtain ⟨ad612, e612, hx612_0⟩ := Kd.at_int (Kd.R_reads' HO_7.out).2.2 x10_2 p612 q612
          cases e612
          replace p612 := eq_true p612
          replace q612 := eq_true q612
          try go_wp2
          replace HO_6 := Aside0.mk (Kd.R_drew HO_6.out)
          replace HO_7 := Aside0.mk (Kd.R_drew HO_7.out)
          replace BK599 := Aside0.mk (blk_drew BK599.out)
          replace BK608 := Aside0.mk (blk_drew BK608.out)
          replace HB := Aside0.mk (below_drew1 HB.out)
          have p613 : 0 ≤ (x10_2 : Int) := of_decide_eq_true (g1_)
          have q613 : x10_2 < (l0_1.length : Int) := of_decide_eq_true (g1_)
          obtain ⟨ad613, A613_0, c613_0, e613, hx613_0, hl613_0, hi613_0⟩ := at_L2 HR0_1.out x10_2 p613 q613
          have hw613_0 := hx613_0
          cases e613
          replace hx613_0 := cl_ HB hx613_0
          have HR613_0 := Aside0.mk hi613_0
          have HC613_0 := Aside0.mk hl613_0
          clear hi613_0 hl613_0
          replace p613 := eq_true p613
          replace q613 := eq_true q613
          have p614 : 0 ≤ (x8_1 : Int) := of_decide_eq_true (g1_)
          have q614 : x8_1 < ((rd_L2 l0_1 x10_2).length : Int) := of_decide_eq_true (g1_)
          obtain ⟨ad614, e614, hx614_0⟩ := Kd.at_int HR613_0.out x8_1 p614 q614
          have hw614_0 := hx614_0
          cases e614
          replace hx614_0 := cl_ HB hx614_0
          replace p614 := eq_true p614
          replace q614 := eq_true q614
          have p615 : 0 ≤ (x10_2 : Int) := of_decide_eq_true (g1_)
          have q615 : x10_2 < (t604.length : Int) := of_decide_eq_true (g1_)
          obtain ⟨ad615, e615, hx615_0⟩ := Kd.at_int (Kd.R_reads' HO_7.out).2.2 x10_2 p615 q615
          obtain rfl : ad612 = ad615 := (by injection e615)
          replace p615 := eq_true p615
          replace q615 := eq_true q615
          refine start_ (n := 19) (S := fun w' => w'.cell? ⟨gb599, 0, none⟩ = some (.slice (some ad607) l0_0.length c0_0) ∧ w'.cell? ⟨gb599, 1, none⟩ = some (.slice (some ad613) l0_1.length c0_1) ∧ w'.cell? (ad613.add (x10_2).toNat) = some (.slice (some ad614) (rd_L2 l0_1 x10_2).length c613_0) ∧ w'.cell? (ad614.add (x8_1).toNat) = some (.int .i64 (rd (rd_L2 l0_1 x10_2) x8_1)) ∧ w'.cell? (ad612.add (x10_2).toNat) = some (.int .i64 (rd t604 x10_2))) (ds := []) (tl_ 19 0) (g0_) rfl (g0_) ⟨(blk_cell BK599.out 0).trans rfl, (blk_cell BK599.out 1).trans rfl, ((cl_ HB hw613_0).trans rfl), ((cl_ HB hw614_0).trans rfl), hx615_0⟩ (fun hHeld => ?_); refine with_tabW spec_GetsOf.tab13 spec_GetsOf.bits13 (fun HT_ HW_ => ?_)
          generalize wr.drew = w93 at HO_6 HO_7 BK599 BK608 HB HR613_0 hx613_0 hx614_0 hx615_0 hHeld ⊢
          refine pw_ 0 49 (tl_ 19 1) rfl rfl ?_
          refine pw_ 2 51 (tl_ 19 5) rfl rfl ?_
          refine pw_ 5 54 (tl_ 19 37) rfl rfl ?_
          refine pw_ 8 57 (tl_ 19 293) rfl rfl ?_
          refine pw_ 9 58 (tl_ 19 805) rfl rfl ?_
          refine pw_ 10 59 (tl_ 19 1829) rfl rfl ?_
          refine tk5_ 1 50 (tl_ 19 1831) rfl rfl hHeld ?_
          refine pw_ 3 52 (tl_ 19 1839) rfl rfl ?_
          refine tk5_ 4 53 (tl_ 19 1855) rfl rfl hHeld ?_
          refine pw_ 6 55 (tl_ 19 1919) rfl rfl ?_
          refine tk5_ 7 56 (tl_ 19 2047) rfl rfl hHeld ?_
          refine tk5_ 11 60 (tl_ 19 4095) rfl rfl hHeld ?_
          refine join_ (σ := Nat) 2 (tl_ 19 131071) (fun s_ => [(61, .tuple #[.agg #[.int .i64 t616, .int .i64 t617], .bool t618]), (11, .pointer (some ⟨s_, 0, none⟩)), (48, .tuple #[.agg #[.int .i64 t616, .int .i64 t617], .bool t618]), (62, .agg #[.int .i64 t616, .int .i64 t617]), (63, .bool t618)]) (fun s_ w' => (w'.cell? ⟨gb599, 0, none⟩ = some (.slice (some ad607) l0_0.length c0_0) ∧ w'.cell? ⟨gb599, 1, none⟩ = some (.slice (some ad613) l0_1.length c0_1) ∧ w'.cell? (ad613.add (x10_2).toNat) = some (.slice (some ad614) (rd_L2 l0_1 x10_2).length c613_0) ∧ w'.cell? (ad614.add (x8_1).toNat) = some (.int .i64 (rd (rd_L2 l0_1 x10_2) x8_1)) ∧ w'.cell? (ad612.add (x10_2).toNat) = some (.int .i64 (rd t604 x10_2))) ∧ (Kd.R k36 36 w' w.heap.size (fun k_ => k_ ≠ gb608 ∧ k_ ≠ s_) u6 x6_1) ∧ (Kd.R (Kd.int .i64) 3 w' w.heap.size (fun _ => True) (.slice (some ad612) t604.length co92) t604) ∧ (w'.heap[gb599]? = some (.cells #[.slice (some ad607) l0_0.length c0_0, .slice (some ad613) l0_1.length c0_1] 26 (0, 0))) ∧ (w'.heap[gb608]? = some (.cells #[.int .i64 x609000_2, .int .i64 x609001_2] 36 (0, 0))) ∧ (w'.heap[s_]? = some (.cells #[.int .i64 0, .int .i64 0] 36 (0, 0))) ∧ (w.heap.size ≤ s_) ∧ (w.heap.size ≤ s_) ∧ (gb599 ≠ s_) ∧ (s_ ≠ gb599) ∧ (gb608 ≠ s_) ∧ (s_ ≠ gb608) ∧ (Below w.heap.size w w')) ?_ ?_
          rotate_left
          ·intro hCont
           refine two_ (i := 12) (j := 16) (Ni := some 61) (Nj := some 11) (tl_ 19 8191) (tl_ 19 69631) rfl rfl rfl rfl (two_of HT_.out (g0_)) (by decide) (by decide) (fun K hK => ?_) (fun K hK => ?_)
           ·skip
            refine goes_ Try.func74 (g0_) rfl #[.int .i64 (rd (rd_L2 l0_1 x10_2) x8_1), .int .i64 (rd t604 x10_2)] (by rfl) rfl rfl (g2_) ?_
            with_reducible refine (spec_FracOf.calls k2 (rd (rd_L2 l0_1 x10_2) x8_1) (rd t604 x10_2) t616 t617 t618 _ A28.out).mono ?_
            rintro e w94 ⟨rfl, hb⟩
            have HS4_ := (hb.cell (World.block_lt_of_cell? _ _ (hHeld.2.2.2.2))).trans (hHeld.2.2.2.2)
            refine ⟨_, rfl, ?_⟩
            replace HO_6 := Aside0.mk (Kd.R_below (uf1_ HO_6) hb)
            replace HO_7 := Aside0.mk (Kd.R_below (uf1_ HO_7) hb)
            replace BK599 := bb_ BK599 hb
            replace BK608 := bb_ BK608 hb
            replace HB := Aside0.mk (below_step (spec_GetsOf.calls_q0) hb)
            (try clear hb)
            (try clear hk hi)
            refine hK.out _ _ ⟨(blk_cell BK599.out 0).trans rfl, (blk_cell BK599.out 1).trans rfl, ((cl_ HB hw613_0).trans rfl), ((cl_ HB hw614_0).trans rfl), HS4_⟩ (fun hHeld => ?_)
            clear hK K
            refine nm_ ?_
            refine pw_ 13 48 (tl_ 19 16383) rfl rfl ?_
            refine pw_ 14 62 (tl_ 19 32767) rfl rfl ?_
            refine pw_ 15 63 (tl_ 19 65535) rfl rfl ?_
            refine one_ (i := 16) (N := some 11) (tl_ 19 131071) rfl rfl (one_of HT_.out (g0_)) (by decide) (fun K hK => ?_)
            refine bs_ (N := 11) #[.int .i64 0, .int .i64 0] 36 ?_
            intro gb619 hg w95 hbox hb
            have HS4_ := (hb.cell (World.block_lt_of_cell? _ _ (hHeld.2.2.2.2))).trans (hHeld.2.2.2.2)
            replace HO_6 := Aside0.mk (Kd.R_below (Kd.R_elderB (uf1_ HO_6) gb619 (Nat.le_of_eq hg.symm)) hb)
            replace HO_7 := Aside0.mk (Kd.R_below (uf1_ HO_7) hb)
            have BK619 := Aside0.mk (hbox)
            have GW619 := Aside0.mk ((g6_ : w.heap.size ≤ gb619))
            have GE619 := Aside0.mk ((g6_ : w.heap.size ≤ gb619))
            replace HB := Aside0.mk (below_step (spec_GetsOf.calls_q0) hb)
            have NB599_619 := Aside0.mk ((g25_ : gb599 ≠ gb619))
            have NB619_599 := Aside0.mk ((g26_ : gb619 ≠ gb599))
            replace BK599 := bb_ BK599 hb
            have NB608_619 := Aside0.mk ((g27_ : gb608 ≠ gb619))
            have NB619_608 := Aside0.mk ((g28_ : gb619 ≠ gb608))
            replace BK608 := bb_ BK608 hb
            clear hb hbox hg
            refine hK.out _ _ ⟨(blk_cell BK599.out 0).trans rfl, (blk_cell BK599.out 1).trans rfl, ((cl_ HB hw613_0).trans rfl), ((cl_ HB hw614_0).trans rfl), HS4_⟩ (fun hHeld => ?_)
            clear hK K
            refine nm_ ?_
            exact norm_ (g8_) (hCont (gb619) _ ⟨hHeld, (uf1_ HO_6), (uf1_ HO_7), (uf0_ BK599), (uf0_ BK608), (uf0_ BK619), GW619.out, GE619.out, NB599_619.out, NB619_599.out, NB608_619.out, NB619_608.out, (spec_GetsOf.calls_q0)⟩)
           ·skip
            refine bs_ (N := 11) #[.int .i64 0, .int .i64 0] 36 ?_
            intro gb619 hg w94 hbox hb
            have HS4_ := (hb.cell (World.block_lt_of_cell? _ _ (hHeld.2.2.2.2))).trans (hHeld.2.2.2.2)
            replace HO_6 := Aside0.mk (Kd.R_below (Kd.R_elderB (uf1_ HO_6) gb619 (Nat.le_of_eq hg.symm)) hb)
            replace HO_7 := Aside0.mk (Kd.R_below (uf1_ HO_7) hb)
            have BK619 := Aside0.mk (hbox)
            have GW619 := Aside0.mk ((g6_ : w.heap.size ≤ gb619))
            have GE619 := Aside0.mk ((g6_ : w.heap.size ≤ gb619))
            replace HB := Aside0.mk (below_step (spec_GetsOf.calls_q0) hb)
            have NB599_619 := Aside0.mk ((g25_ : gb599 ≠ gb619))
            have NB619_599 := Aside0.mk ((g26_ : gb619 ≠ gb599))
            replace BK599 := bb_ BK599 hb
            have NB608_619 := Aside0.mk ((g27_ : gb608 ≠ gb619))
            have NB619_608 := Aside0.mk ((g28_ : gb619 ≠ gb608))
            replace BK608 := bb_ BK608 hb
            clear hb hbox hg
            refine hK.out _ _ ⟨(blk_cell BK599.out 0).trans rfl, (blk_cell BK599.out 1).trans rfl, ((cl_ HB hw613_0).trans rfl), ((cl_ HB hw614_0).trans rfl), HS4_⟩ (fun hHeld => ?_)
            clear hK K
            refine nm_ ?_
            refine one_ (i := 12) (N := some 61) (tl_ 19 73727) rfl rfl (one_of HT_.out (g0_)) (by decide) (fun K hK => ?_)
            refine goes_ Try.func74 (g0_) rfl #[.int .i64 (rd (rd_L2 l0_1 x10_2) x8_1), .int .i64 (rd t604 x10_2)] (by rfl) rfl rfl (g2_) ?_
            with_reducible refine (spec_FracOf.calls k2 (rd (rd_L2 l0_1 x10_2) x8_1) (rd t604 x10_2) t616 t617 t618 _ A28.out).mono ?_
            rintro e w95 ⟨rfl, hb⟩
            have HS4_ := (hb.cell (World.block_lt_of_cell? _ _ (hHeld.2.2.2.2))).trans (hHeld.2.2.2.2)
            refine ⟨_, rfl, ?_⟩
            replace HO_6 := Aside0.mk (Kd.R_below (uf1_ HO_6) hb)
            replace HO_7 := Aside0.mk (Kd.R_below (uf1_ HO_7) hb)
            replace BK599 := bb_ BK599 hb
            replace BK608 := bb_ BK608 hb
            replace BK619 := bb_ BK619 hb
            replace HB := Aside0.mk (below_step (spec_GetsOf.calls_q0) hb)
            (try clear hb)
            (try clear hk hi)
            refine hK.out _ _ ⟨(blk_cell BK599.out 0).trans rfl, (blk_cell BK599.out 1).trans rfl, ((cl_ HB hw613_0).trans rfl), ((cl_ HB hw614_0).trans rfl), HS4_⟩ (fun hHeld => ?_)
            clear hK K
            refine nm_ ?_
            refine pw_ 13 48 (tl_ 19 81919) rfl rfl ?_
            refine pw_ 14 62 (tl_ 19 98303) rfl rfl ?_
            refine pw_ 15 63 (tl_ 19 131071) rfl rfl ?_
            exact norm_ (g8_) (hCont (gb619) _ ⟨hHeld, (uf1_ HO_6), (uf1_ HO_7), (uf0_ BK599), (uf0_ BK608), (uf0_ BK619), GW619.out, GE619.out, NB599_619.out, NB619_599.out, NB608_619.out, NB619_608.out, (spec_GetsOf.calls_q0)⟩)
          rintro gb619 w96 ⟨hS_, h0_, h1_, h2_, h3_, h4_, h5_, h6_, h7_, h8_, h9_, h10_, h11_⟩
          replace HO_6 : Aside0 (Kd.R k36 36 w96 w.heap.size (fun k_ => k_ ≠ gb608 ∧ k_ ≠ gb619) u6 x6_1) := ⟨h0_⟩
          replace HO_7 : Aside0 (Kd.R (Kd.int .i64) 3 w96 w.heap.size (fun _ => True) (.slice (some ad612) t604.length co92) t604) := ⟨h1_⟩
          replace BK599 : Aside0 (w96.heap[gb599]? = some (.cells #[.slice (some ad607) l0_0.length c0_0, .slice (some ad613) l0_1.length c0_1] 26 (0, 0))) := ⟨h2_⟩
          replace BK608 : Aside0 (w96.heap[gb608]? = some (.cells #[.int .i64 x609000_2, .int .i64 x609001_2] 36 (0, 0))) := ⟨h3_⟩
          have BK619 : Aside0 (w96.heap[gb619]? = some (.cells #[.int .i64 0, .int .i64 0] 36 (0, 0))) := ⟨h4_⟩
          have GW619 : Aside0 (w.heap.size ≤ gb619) := ⟨h5_⟩
          have GE619 : Aside0 (w.heap.size ≤ gb619) := ⟨h6_⟩
          have NB599_619 : Aside0 (gb599 ≠ gb619) := ⟨h7_⟩
          have NB619_599 : Aside0 (gb619 ≠ gb599) := ⟨h8_⟩
          have NB608_619 : Aside0 (gb608 ≠ gb619) := ⟨h9_⟩
          have NB619_608 : Aside0 (gb619 ≠ gb608) := ⟨h10_⟩
          replace HB : Aside0 (Below w.heap.size w w96) := ⟨h11_⟩
          clear h0_ h1_ h2_ h3_ h4_ h5_ h6_ h7_ h8_ h9_ h10_ h11_
          have hHeld : w96.cell? ⟨gb599, 0, none⟩ = some (.slice (some ad607) l0_0.length c0_0) ∧ w96.cell? ⟨gb599, 1, none⟩ = some (.slice (some ad613) l0_1.length c0_1) ∧ w96.cell? (ad613.add (x10_2).toNat) = some (.slice (some ad614) (rd_L2 l0_1 x10_2).length c613_0) ∧ w96.cell? (ad614.add (x8_1).toNat) = some (.int .i64 (rd (rd_L2 l0_1 x10_2) x8_1)) ∧ w96.cell? (ad612.add (x10_2).toNat) = some (.int .i64 (rd t604 x10_2)) := hS_
          refine norm_ (a' := ?_) ?_ ?_
          rotate_left
          ·simp only [putAll, Act.put, List.setIfInBounds_toArray, List.set_cons_zero, List.set_cons_succ]
           rfl
          refine one_ (i := 17) (N := none) (tl_ 19 262143) rfl rfl (one_of HT_.out (g0_)) (by decide) (fun K hK => ?_)
          have hs97 : w96.cell? ⟨gb619, 0, none⟩ = some (.int .i64 0) := (blk_cell BK619.out 0).trans rfl
          have hfs97 := blk_frozen BK619.out 0
          have hns97_0 := NB599_619.out
          have hns97_1 := NB608_619.out
          have hms97_0 := NB619_599.out
          have hms97_1 := NB619_608.out
          have hs98 : w96.cell? ⟨gb619, 1, none⟩ = some (.int .i64 0) := (blk_cell BK619.out 1).trans rfl
          have hfs98 := blk_frozen BK619.out 1
          have hns98_0 := NB599_619.out
          have hns98_1 := NB608_619.out
          have hms98_0 := NB619_599.out
          have hms98_1 := NB619_608.out
          refine skip_ (w1 := ?_) (by rfl) rfl ?_ ?_
          rotate_left
          ·go_simp
           rfl
          refine hK.out _ _ ⟨(cf_ NB599_619 ((cf_ NB599_619 (hHeld.1)))), (cf_ NB599_619 ((cf_ NB599_619 (hHeld.2.1)))), ((cell_far (p := ⟨gb619, _, none⟩) (by first | exact Nat.ne_of_lt (Nat.lt_of_lt_of_le (by have := World.block_lt_of_cell? _ _ hw613_0; first | rwa [add_block] at this | exact this) GW619.out) | (rw [add_block]; exact Nat.ne_of_lt (Nat.lt_of_lt_of_le (by have := World.block_lt_of_cell? _ _ hw613_0; first | rwa [add_block] at this | exact this) GW619.out)) | (show (Addr.add _ _).block ≠ _; rw [add_block]; exact Nat.ne_of_lt (Nat.lt_of_lt_of_le (by have := World.block_lt_of_cell? _ _ hw613_0; first | rwa [add_block] at this | exact this) GW619.out)) | (dsimp only; exact Nat.ne_of_lt (Nat.lt_of_lt_of_le (by have := World.block_lt_of_cell? _ _ hw613_0; first | rwa [add_block] at this | exact this) GW619.out))) _).trans (((cell_far (p := ⟨gb619, _, none⟩) (by first | exact Nat.ne_of_lt (Nat.lt_of_lt_of_le (by have := World.block_lt_of_cell? _ _ hw613_0; first | rwa [add_block] at this | exact this) GW619.out) | (rw [add_block]; exact Nat.ne_of_lt (Nat.lt_of_lt_of_le (by have := World.block_lt_of_cell? _ _ hw613_0; first | rwa [add_block] at this | exact this) GW619.out)) | (show (Addr.add _ _).block ≠ _; rw [add_block]; exact Nat.ne_of_lt (Nat.lt_of_lt_of_le (by have := World.block_lt_of_cell? _ _ hw613_0; first | rwa [add_block] at this | exact this) GW619.out)) | (dsimp only; exact Nat.ne_of_lt (Nat.lt_of_lt_of_le (by have := World.block_lt_of_cell? _ _ hw613_0; first | rwa [add_block] at this | exact this) GW619.out))) _).trans (hHeld.2.2.1)))), ((cell_far (p := ⟨gb619, _, none⟩) (by first | exact Nat.ne_of_lt (Nat.lt_of_lt_of_le (by have := World.block_lt_of_cell? _ _ hw614_0; first | rwa [add_block] at this | exact this) GW619.out) | (rw [add_block]; exact Nat.ne_of_lt (Nat.lt_of_lt_of_le (by have := World.block_lt_of_cell? _ _ hw614_0; first | rwa [add_block] at this | exact this) GW619.out)) | (show (Addr.add _ _).block ≠ _; rw [add_block]; exact Nat.ne_of_lt (Nat.lt_of_lt_of_le (by have := World.block_lt_of_cell? _ _ hw614_0; first | rwa [add_block] at this | exact this) GW619.out)) | (dsimp only; exact Nat.ne_of_lt (Nat.lt_of_lt_of_le (by have := World.block_lt_of_cell? _ _ hw614_0; first | rwa [add_block] at this | exact this) GW619.out))) _).trans (((cell_far (p := ⟨gb619, _, none⟩) (by first | exact Nat.ne_of_lt (Nat.lt_of_lt_of_le (by have := World.block_lt_of_cell? _ _ hw614_0; first | rwa [add_block] at this | exact this) GW619.out) | (rw [add_block]; exact Nat.ne_of_lt (Nat.lt_of_lt_of_le (by have := World.block_lt_of_cell? _ _ hw614_0; first | rwa [add_block] at this | exact this) GW619.out)) | (show (Addr.add _ _).block ≠ _; rw [add_block]; exact Nat.ne_of_lt (Nat.lt_of_lt_of_le (by have := World.block_lt_of_cell? _ _ hw614_0; first | rwa [add_block] at this | exact this) GW619.out)) | (dsimp only; exact Nat.ne_of_lt (Nat.lt_of_lt_of_le (by have := World.block_lt_of_cell? _ _ hw614_0; first | rwa [add_block] at this | exact this) GW619.out))) _).trans (hHeld.2.2.2.1)))), ((cell_far (p := ⟨gb619, _, none⟩) (g72_) _).trans (((cell_far (p := ⟨gb619, _, none⟩) (g72_) _).trans (hHeld.2.2.2.2))))⟩ (fun hHeld => ?_)
          clear hK K
          refine pw_ 18 12 (tl_ 19 524287) rfl rfl ?_
          refine done_ (done_of HT_.out (g0_)) ?_
          try go_wp2
          have n0_ : Aside0 (Kd.R k36 36 ((w96.setCell ⟨gb619, 0, none⟩ (.int .i64 t616)).setCell ⟨gb619, 1, none⟩ (.int .i64 t617)) w.heap.size (fun k_ => k_ ≠ gb608 ∧ k_ ≠ gb619) u6 x6_1) := ⟨g159_⟩
          have n1_ : Aside0 (Kd.R (Kd.int .i64) 3 ((w96.setCell ⟨gb619, 0, none⟩ (.int .i64 t616)).setCell ⟨gb619, 1, none⟩ (.int .i64 t617)) w.heap.size (fun _ => True) (.slice (some ad612) t604.length co92) t604) := ⟨g160_⟩
          have n2_ : Aside0 (((w96.setCell ⟨gb619, 0, none⟩ (.int .i64 t616)).setCell ⟨gb619, 1, none⟩ (.int .i64 t617)).heap[gb599]? = some (.cells #[.slice (some ad607) l0_0.length c0_0, .slice (some ad613) l0_1.length c0_1] 26 (0, 0))) := ⟨g161_⟩
          have n3_ : Aside0 (((w96.setCell ⟨gb619, 0, none⟩ (.int .i64 t616)).setCell ⟨gb619, 1, none⟩ (.int .i64 t617)).heap[gb608]? = some (.cells #[.int .i64 x609000_2, .int .i64 x609001_2] 36 (0, 0))) := ⟨g162_⟩
          have n4_ : Aside0 (((w96.setCell ⟨gb619, 0, none⟩ (.int .i64 t616)).setCell ⟨gb619, 1, none⟩ (.int .i64 t617)).heap[gb619]? = some (.cells #[.int .i64 t616, .int .i64 t617] 36 (0, 0))) := ⟨g163_⟩
          have n5_ : Aside0 (Below w.heap.size w ((w96.setCell ⟨gb619, 0, none⟩ (.int .i64 t616)).setCell ⟨gb619, 1, none⟩ (.int .i64 t617))) := ⟨spec_GetsOf.calls_q0⟩
          (try clear HO_6)
          (try clear HO_7)
          (try clear BK599)
          (try clear BK608)
          (try clear BK619)
          (try clear HB)
          generalize ((w96.setCell ⟨gb619, 0, none⟩ (.int .i64 t616)).setCell ⟨gb619, 1, none⟩ (.int .i64 t617)) = w99 at n0_ n1_ n2_ n3_ n4_ n5_ ⊢
          have HO_6 := n0_
          have HO_7 := n1_
          have BK599 := n2_
          have BK608 := n3_
          have BK619 := n4_
          have HB := n5_
          clear n0_ n1_ n2_ n3_ n4_ n5_
          replace HO_6 := Aside0.mk (Kd.R_drew HO_6.out)
          replace HO_7 := Aside0.mk (Kd.R_drew HO_7.out)
          replace BK599 := Aside0.mk (blk_drew BK599.out)
          replace BK608 := Aside0.mk (blk_drew BK608.out)
          replace BK619 := Aside0.mk (blk_drew BK619.out)
          replace HB := Aside0.mk (below_drew1 HB.out)
          have p620 : 0 ≤ (x10_2 : Int) := of_decide_eq_true (g1_)
          have q620 : x10_2 < (l1.length : Int) := of_decide_eq_true (g1_)
          obtain ⟨ad620, e620, hx620_0, hx620_1⟩ := at_T36 HR1.out x10_2 p620 q620
          have hw620_1 := hx620_1
          have hw620_0 := hx620_0
          cases e620
          replace hx620_0 := cl_ HB hx620_0
          replace hx620_1 := cl_ HB hx620_1
          replace p620 := eq_true p620
          replace q620 := eq_true q620
          refine start_ (n := 12) (S := fun w' => w'.cell? ⟨gb619, 0, none⟩ = some (.int .i64 t616) ∧ w'.cell? ⟨gb619, 1, none⟩ = some (.int .i64 t617) ∧ w'.cell? (ad620.add ((x10_2).toNat * 2)) = some (.int .i64 ((rd_T36 l1 x10_2).f0)) ∧ w'.cell? ⟨(ad620.add ((x10_2).toNat * 2)).block, (ad620.add ((x10_2).toNat * 2)).off + 1, none⟩ = some (.int .i64 ((rd_T36 l1 x10_2).f1))) (ds := []) (tl_ 12 0) (g0_) rfl (g0_) ⟨(blk_cell BK619.out 0).trans rfl, (blk_cell BK619.out 1).trans rfl, ((cl_ HB hw620_0).trans rfl), ((cl_ HB hw620_1).trans rfl)⟩ (fun hHeld => ?_); refine with_tabW spec_GetsOf.tab14 spec_GetsOf.bits14 (fun HT_ HW_ => ?_)
          generalize w99.drew = w100 at HO_6 HO_7 BK599 BK608 BK619 HB hx620_0 hx620_1 hHeld ⊢
          refine pw_ 0 65 (tl_ 12 1) rfl rfl ?_
          refine pw_ 1 66 (tl_ 12 3) rfl rfl ?_
          refine pw_ 2 67 (tl_ 12 7) rfl rfl ?_
          refine tk3_ 3 68 (tl_ 12 15) rfl rfl hHeld ?_
          refine tk3_ 4 69 (tl_ 12 31) rfl rfl hHeld ?_
          refine join_ (σ := Nat) 2 (tl_ 12 1023) (fun s_ => [(70, .tuple #[.agg #[.int .i64 t621, .int .i64 t622], .bool false]), (13, .pointer (some ⟨s_, 0, none⟩)), (64, .tuple #[.agg #[.int .i64 t621, .int .i64 t622], .bool false]), (71, .agg #[.int .i64 t621, .int .i64 t622]), (72, .bool false)]) (fun s_ w' => (w'.cell? ⟨gb619, 0, none⟩ = some (.int .i64 t616) ∧ w'.cell? ⟨gb619, 1, none⟩ = some (.int .i64 t617) ∧ w'.cell? (ad620.add ((x10_2).toNat * 2)) = some (.int .i64 ((rd_T36 l1 x10_2).f0)) ∧ w'.cell? ⟨(ad620.add ((x10_2).toNat * 2)).block, (ad620.add ((x10_2).toNat * 2)).off + 1, none⟩ = some (.int .i64 ((rd_T36 l1 x10_2).f1))) ∧ (Kd.R k36 36 w' w.heap.size (fun k_ => k_ ≠ gb608 ∧ k_ ≠ gb619 ∧ k_ ≠ s_) u6 x6_1) ∧ (Kd.R (Kd.int .i64) 3 w' w.heap.size (fun _ => True) (.slice (some ad612) t604.length co92) t604) ∧ (w'.heap[gb599]? = some (.cells #[.slice (some ad607) l0_0.length c0_0, .slice (some ad613) l0_1.length c0_1] 26 (0, 0))) ∧ (w'.heap[gb608]? = some (.cells #[.int .i64 x609000_2, .int .i64 x609001_2] 36 (0, 0))) ∧ (w'.heap[gb619]? = some (.cells #[.int .i64 t616, .int .i64 t617] 36 (0, 0))) ∧ (w'.heap[s_]? = some (.cells #[.int .i64 0, .int .i64 0] 36 (0, 0))) ∧ (w.heap.size ≤ s_) ∧ (w.heap.size ≤ s_) ∧ (gb599 ≠ s_) ∧ (s_ ≠ gb599) ∧ (gb608 ≠ s_) ∧ (s_ ≠ gb608) ∧ (gb619 ≠ s_) ∧ (s_ ≠ gb619) ∧ (Below w.heap.size w w')) ?_ ?_
          rotate_left
          ·intro hCont
           refine two_ (i := 5) (j := 9) (Ni := some 70) (Nj := some 13) (tl_ 12 63) (tl_ 12 543) rfl rfl rfl rfl (two_of HT_.out (g0_)) (by decide) (by decide) (fun K hK => ?_) (fun K hK => ?_)
           ·skip
            refine goes_ Try.func75 (g0_) rfl #[.agg #[.int .i64 ((rd_T36 l1 x10_2).f0), .int .i64 ((rd_T36 l1 x10_2).f1)], .agg #[.int .i64 t616, .int .i64 t617]] (by rfl) rfl rfl (g2_) ?_
            with_reducible refine (spec_TimesOf.calls k2 ((rd_T36 l1 x10_2).f0) ((rd_T36 l1 x10_2).f1) t616 t617 t621 t622 false _ A29.out).mono ?_
            rintro e w101 ⟨rfl, hb⟩
            refine ⟨_, rfl, ?_⟩
            replace HO_6 := Aside0.mk (Kd.R_below (uf1_ HO_6) hb)
            replace HO_7 := Aside0.mk (Kd.R_below (uf1_ HO_7) hb)
            replace BK599 := bb_ BK599 hb
            replace BK608 := bb_ BK608 hb
            replace BK619 := bb_ BK619 hb
            replace HB := Aside0.mk (below_step (spec_GetsOf.calls_q0) hb)
            (try clear hb)
            (try clear hk hi)
            refine hK.out _ _ ⟨(blk_cell BK619.out 0).trans rfl, (blk_cell BK619.out 1).trans rfl, ((cl_ HB hw620_0).trans rfl), ((cl_ HB hw620_1).trans rfl)⟩ (fun hHeld => ?_)
            clear hK K
            refine nm_ ?_
            refine pw_ 6 64 (tl_ 12 127) rfl rfl ?_
            refine pw_ 7 71 (tl_ 12 255) rfl rfl ?_
            refine pw_ 8 72 (tl_ 12 511) rfl rfl ?_
            refine one_ (i := 9) (N := some 13) (tl_ 12 1023) rfl rfl (one_of HT_.out (g0_)) (by decide) (fun K hK => ?_)
            refine bs_ (N := 13) #[.int .i64 0, .int .i64 0] 36 ?_
            intro gb624 hg w102 hbox hb
            replace HO_6 := Aside0.mk (Kd.R_below (Kd.R_elderB (uf1_ HO_6) gb624 (Nat.le_of_eq hg.symm)) hb)
            replace HO_7 := Aside0.mk (Kd.R_below (uf1_ HO_7) hb)
            have BK624 := Aside0.mk (hbox)
            have GW624 := Aside0.mk ((g6_ : w.heap.size ≤ gb624))
            have GE624 := Aside0.mk ((g6_ : w.heap.size ≤ gb624))
            replace HB := Aside0.mk (below_step (spec_GetsOf.calls_q0) hb)
            have NB599_624 := Aside0.mk ((g25_ : gb599 ≠ gb624))
            have NB624_599 := Aside0.mk ((g26_ : gb624 ≠ gb599))
            replace BK599 := bb_ BK599 hb
            have NB608_624 := Aside0.mk ((g27_ : gb608 ≠ gb624))
            have NB624_608 := Aside0.mk ((g28_ : gb624 ≠ gb608))
            replace BK608 := bb_ BK608 hb
            have NB619_624 := Aside0.mk ((g39_ : gb619 ≠ gb624))
            have NB624_619 := Aside0.mk ((g40_ : gb624 ≠ gb619))
            replace BK619 := bb_ BK619 hb
            clear hb hbox hg
            refine hK.out _ _ ⟨(blk_cell BK619.out 0).trans rfl, (blk_cell BK619.out 1).trans rfl, ((cl_ HB hw620_0).trans rfl), ((cl_ HB hw620_1).trans rfl)⟩ (fun hHeld => ?_)
            clear hK K
            refine nm_ ?_
            exact norm_ (g8_) (hCont (gb624) _ ⟨hHeld, (g73_), (uf1_ HO_7), (uf0_ BK599), (uf0_ BK608), (uf0_ BK619), (uf0_ BK624), GW624.out, GE624.out, NB599_624.out, NB624_599.out, NB608_624.out, NB624_608.out, NB619_624.out, NB624_619.out, (spec_GetsOf.calls_q0)⟩)
           ·skip
            refine bs_ (N := 13) #[.int .i64 0, .int .i64 0] 36 ?_
            intro gb624 hg w101 hbox hb
            replace HO_6 := Aside0.mk (Kd.R_below (Kd.R_elderB (uf1_ HO_6) gb624 (Nat.le_of_eq hg.symm)) hb)
            replace HO_7 := Aside0.mk (Kd.R_below (uf1_ HO_7) hb)
            have BK624 := Aside0.mk (hbox)
            have GW624 := Aside0.mk ((g6_ : w.heap.size ≤ gb624))
            have GE624 := Aside0.mk ((g6_ : w.heap.size ≤ gb624))
            replace HB := Aside0.mk (below_step (spec_GetsOf.calls_q0) hb)
            have NB599_624 := Aside0.mk ((g25_ : gb599 ≠ gb624))
            have NB624_599 := Aside0.mk ((g26_ : gb624 ≠ gb599))
            replace BK599 := bb_ BK599 hb
            have NB608_624 := Aside0.mk ((g27_ : gb608 ≠ gb624))
            have NB624_608 := Aside0.mk ((g28_ : gb624 ≠ gb608))
            replace BK608 := bb_ BK608 hb
            have NB619_624 := Aside0.mk ((g39_ : gb619 ≠ gb624))
            have NB624_619 := Aside0.mk ((g40_ : gb624 ≠ gb619))
            replace BK619 := bb_ BK619 hb
            clear hb hbox hg
            refine hK.out _ _ ⟨(blk_cell BK619.out 0).trans rfl, (blk_cell BK619.out 1).trans rfl, ((cl_ HB hw620_0).trans rfl), ((cl_ HB hw620_1).trans rfl)⟩ (fun hHeld => ?_)
            clear hK K
            refine nm_ ?_
            refine one_ (i := 5) (N := some 70) (tl_ 12 575) rfl rfl (one_of HT_.out (g0_)) (by decide) (fun K hK => ?_)
            refine goes_ Try.func75 (g0_) rfl #[.agg #[.int .i64 ((rd_T36 l1 x10_2).f0), .int .i64 ((rd_T36 l1 x10_2).f1)], .agg #[.int .i64 t616, .int .i64 t617]] (by rfl) rfl rfl (g2_) ?_
            with_reducible refine (spec_TimesOf.calls k2 ((rd_T36 l1 x10_2).f0) ((rd_T36 l1 x10_2).f1) t616 t617 t621 t622 false _ A29.out).mono ?_
            rintro e w102 ⟨rfl, hb⟩
            refine ⟨_, rfl, ?_⟩
            replace HO_6 := Aside0.mk (Kd.R_below (uf1_ HO_6) hb)
            replace HO_7 := Aside0.mk (Kd.R_below (uf1_ HO_7) hb)
            replace BK599 := bb_ BK599 hb
            replace BK608 := bb_ BK608 hb
            replace BK619 := bb_ BK619 hb
            replace BK624 := bb_ BK624 hb
            replace HB := Aside0.mk (below_step (spec_GetsOf.calls_q0) hb)
            (try clear hb)
            (try clear hk hi)
            refine hK.out _ _ ⟨(blk_cell BK619.out 0).trans rfl, (blk_cell BK619.out 1).trans rfl, ((cl_ HB hw620_0).trans rfl), ((cl_ HB hw620_1).trans rfl)⟩ (fun hHeld => ?_)
            clear hK K
            refine nm_ ?_
            refine pw_ 6 64 (tl_ 12 639) rfl rfl ?_
            refine pw_ 7 71 (tl_ 12 767) rfl rfl ?_
            refine pw_ 8 72 (tl_ 12 1023) rfl rfl ?_
            exact norm_ (g8_) (hCont (gb624) _ ⟨hHeld, (g73_), (uf1_ HO_7), (uf0_ BK599), (uf0_ BK608), (uf0_ BK619), (uf0_ BK624), GW624.out, GE624.out, NB599_624.out, NB624_599.out, NB608_624.out, NB624_608.out, NB619_624.out, NB624_619.out, (spec_GetsOf.calls_q0)⟩)
          rintro gb624 w103 ⟨hS_, h0_, h1_, h2_, h3_, h4_, h5_, h6_, h7_, h8_, h9_, h10_, h11_, h12_, h13_, h14_⟩
          replace HO_6 : Aside0 (Kd.R k36 36 w103 w.heap.size (fun k_ => k_ ≠ gb608 ∧ k_ ≠ gb619 ∧ k_ ≠ gb624) u6 x6_1) := ⟨h0_⟩
          replace HO_7 : Aside0 (Kd.R (Kd.int .i64) 3 w103 w.heap.size (fun _ => True) (.slice (some ad612) t604.length co92) t604) := ⟨h1_⟩
          replace BK599 : Aside0 (w103.heap[gb599]? = some (.cells #[.slice (some ad607) l0_0.length c0_0, .slice (some ad613) l0_1.length c0_1] 26 (0, 0))) := ⟨h2_⟩
          replace BK608 : Aside0 (w103.heap[gb608]? = some (.cells #[.int .i64 x609000_2, .int .i64 x609001_2] 36 (0, 0))) := ⟨h3_⟩
          replace BK619 : Aside0 (w103.heap[gb619]? = some (.cells #[.int .i64 t616, .int .i64 t617] 36 (0, 0))) := ⟨h4_⟩
          have BK624 : Aside0 (w103.heap[gb624]? = some (.cells #[.int .i64 0, .int .i64 0] 36 (0, 0))) := ⟨h5_⟩
          have GW624 : Aside0 (w.heap.size ≤ gb624) := ⟨h6_⟩
          have GE624 : Aside0 (w.heap.size ≤ gb624) := ⟨h7_⟩
          have NB599_624 : Aside0 (gb599 ≠ gb624) := ⟨h8_⟩
          have NB624_599 : Aside0 (gb624 ≠ gb599) := ⟨h9_⟩
          have NB608_624 : Aside0 (gb608 ≠ gb624) := ⟨h10_⟩
          have NB624_608 : Aside0 (gb624 ≠ gb608) := ⟨h11_⟩
          have NB619_624 : Aside0 (gb619 ≠ gb624) := ⟨h12_⟩
          have NB624_619 : Aside0 (gb624 ≠ gb619) := ⟨h13_⟩
          replace HB : Aside0 (Below w.heap.size w w103) := ⟨h14_⟩
          clear h0_ h1_ h2_ h3_ h4_ h5_ h6_ h7_ h8_ h9_ h10_ h11_ h12_ h13_ h14_
          have hHeld : w103.cell? ⟨gb619, 0, none⟩ = some (.int .i64 t616) ∧ w103.cell? ⟨gb619, 1, none⟩ = some (.int .i64 t617) ∧ w103.cell? (ad620.add ((x10_2).toNat * 2)) = some (.int .i64 ((rd_T36 l1 x10_2).f0)) ∧ w103.cell? ⟨(ad620.add ((x10_2).toNat * 2)).block, (ad620.add ((x10_2).toNat * 2)).off + 1, none⟩ = some (.int .i64 ((rd_T36 l1 x10_2).f1)) := hS_
          refine norm_ (a' := ?_) ?_ ?_
          rotate_left
          ·simp only [putAll, Act.put, List.setIfInBounds_toArray, List.set_cons_zero, List.set_cons_succ]
           rfl
          refine one_ (i := 10) (N := none) (tl_ 12 2047) rfl rfl (one_of HT_.out (g0_)) (by decide) (fun K hK => ?_)
          have hs104 : w103.cell? ⟨gb624, 0, none⟩ = some (.int .i64 0) := (blk_cell BK624.out 0).trans rfl
          have hfs104 := blk_frozen BK624.out 0
          have hns104_0 := NB599_624.out
          have hns104_1 := NB608_624.out
          have hns104_2 := NB619_624.out
          have hms104_0 := NB624_599.out
          have hms104_1 := NB624_608.out
          have hms104_2 := NB624_619.out
          have hs105 : w103.cell? ⟨gb624, 1, none⟩ = some (.int .i64 0) := (blk_cell BK624.out 1).trans rfl
          have hfs105 := blk_frozen BK624.out 1
          have hns105_0 := NB599_624.out
          have hns105_1 := NB608_624.out
          have hns105_2 := NB619_624.out
          have hms105_0 := NB624_599.out
          have hms105_1 := NB624_608.out
          have hms105_2 := NB624_619.out
          refine skip_ (w1 := ?_) (by rfl) rfl ?_ ?_
          rotate_left
          ·go_simp
           rfl
          refine hK.out _ _ ⟨(cf_ NB619_624 ((cf_ NB619_624 (hHeld.1)))), (cf_ NB619_624 ((cf_ NB619_624 (hHeld.2.1)))), ((cell_far (p := ⟨gb624, _, none⟩) (by first | exact Nat.ne_of_lt (Nat.lt_of_lt_of_le (by have := World.block_lt_of_cell? _ _ hw620_0; first | rwa [add_block] at this | exact this) GW624.out) | (rw [add_block]; exact Nat.ne_of_lt (Nat.lt_of_lt_of_le (by have := World.block_lt_of_cell? _ _ hw620_0; first | rwa [add_block] at this | exact this) GW624.out)) | (show (Addr.add _ _).block ≠ _; rw [add_block]; exact Nat.ne_of_lt (Nat.lt_of_lt_of_le (by have := World.block_lt_of_cell? _ _ hw620_0; first | rwa [add_block] at this | exact this) GW624.out)) | (dsimp only; exact Nat.ne_of_lt (Nat.lt_of_lt_of_le (by have := World.block_lt_of_cell? _ _ hw620_0; first | rwa [add_block] at this | exact this) GW624.out))) _).trans (((cell_far (p := ⟨gb624, _, none⟩) (by first | exact Nat.ne_of_lt (Nat.lt_of_lt_of_le (by have := World.block_lt_of_cell? _ _ hw620_0; first | rwa [add_block] at this | exact this) GW624.out) | (rw [add_block]; exact Nat.ne_of_lt (Nat.lt_of_lt_of_le (by have := World.block_lt_of_cell? _ _ hw620_0; first | rwa [add_block] at this | exact this) GW624.out)) | (show (Addr.add _ _).block ≠ _; rw [add_block]; exact Nat.ne_of_lt (Nat.lt_of_lt_of_le (by have := World.block_lt_of_cell? _ _ hw620_0; first | rwa [add_block] at this | exact this) GW624.out)) | (dsimp only; exact Nat.ne_of_lt (Nat.lt_of_lt_of_le (by have := World.block_lt_of_cell? _ _ hw620_0; first | rwa [add_block] at this | exact this) GW624.out))) _).trans (hHeld.2.2.1)))), ((cell_far (p := ⟨gb624, _, none⟩) (by first | exact Nat.ne_of_lt (Nat.lt_of_lt_of_le (by have := World.block_lt_of_cell? _ _ hw620_1; first | rwa [add_block] at this | exact this) GW624.out) | (rw [add_block]; exact Nat.ne_of_lt (Nat.lt_of_lt_of_le (by have := World.block_lt_of_cell? _ _ hw620_1; first | rwa [add_block] at this | exact this) GW624.out)) | (show (Addr.add _ _).block ≠ _; rw [add_block]; exact Nat.ne_of_lt (Nat.lt_of_lt_of_le (by have := World.block_lt_of_cell? _ _ hw620_1; first | rwa [add_block] at this | exact this) GW624.out)) | (dsimp only; exact Nat.ne_of_lt (Nat.lt_of_lt_of_le (by have := World.block_lt_of_cell? _ _ hw620_1; first | rwa [add_block] at this | exact this) GW624.out))) _).trans (((cell_far (p := ⟨gb624, _, none⟩) (by first | exact Nat.ne_of_lt (Nat.lt_of_lt_of_le (by have := World.block_lt_of_cell? _ _ hw620_1; first | rwa [add_block] at this | exact this) GW624.out) | (rw [add_block]; exact Nat.ne_of_lt (Nat.lt_of_lt_of_le (by have := World.block_lt_of_cell? _ _ hw620_1; first | rwa [add_block] at this | exact this) GW624.out)) | (show (Addr.add _ _).block ≠ _; rw [add_block]; exact Nat.ne_of_lt (Nat.lt_of_lt_of_le (by have := World.block_lt_of_cell? _ _ hw620_1; first | rwa [add_block] at this | exact this) GW624.out)) | (dsimp only; exact Nat.ne_of_lt (Nat.lt_of_lt_of_le (by have := World.block_lt_of_cell? _ _ hw620_1; first | rwa [add_block] at this | exact this) GW624.out))) _).trans (hHeld.2.2.2))))⟩ (fun hHeld => ?_)
          clear hK K
          refine pw_ 11 14 (tl_ 12 4095) rfl rfl ?_
          refine done_ (done_of HT_.out (g0_)) ?_
          have hnb106 := NB608_599.out
          have hnc106 := NB599_608.out
          have hnb107 := NB608_619.out
          have hnc107 := NB619_608.out
          have hnb108 := NB608_624.out
          have hnc108 := NB624_608.out
          obtain ⟨hcz109_0, hcz109_1, hfz109_0, hfz109_1⟩ := blk2_ BK608
          have hnb110 := NB624_599.out
          have hnc110 := NB599_624.out
          have hnb111 := NB624_619.out
          have hnc111 := NB619_624.out
          obtain ⟨hcz112_0, hcz112_1, hfz112_0, hfz112_1⟩ := blk2_ BK624
          try go_wp2_with (first | ((with_reducible refine gate_callee (f := 76) rfl ?_); refine goesL_ (some 76) rfl rfl Try.func76 k_ rfl #[.agg #[.int .i64 x609000_2, .int .i64 x609001_2], .agg #[.int .i64 t621, .int .i64 t622]] rfl (g2_) ?_; (with_reducible refine (spec_PlusOf.calls k2 x609000_2 x609001_2 t621 t622 t625 t626 t627 _ A30.out).mono ?_); rintro e w113 ⟨rfl, hb⟩; refine ⟨_, rfl, ?_⟩; replace HO_6 := Aside0.mk (Kd.R_below (g164_) hb); replace HO_7 := Aside0.mk (Kd.R_below (g165_) hb); replace BK599 := Aside0.mk (blk_below (g := gb599) (o := .cells #[.slice (some ad607) l0_0.length c0_0, .slice (some ad613) l0_1.length c0_1] 26 (0, 0)) (g166_) hb); replace BK608 := Aside0.mk (blk_below (g := gb608) (o := .cells #[.int .i64 x609000_2, .int .i64 x609001_2] 36 (0, 0)) (g167_) hb); replace BK619 := Aside0.mk (blk_below (g := gb619) (o := .cells #[.int .i64 t616, .int .i64 t617] 36 (0, 0)) (g168_) hb); replace BK624 := Aside0.mk (blk_below (g := gb624) (o := .cells #[.int .i64 t621, .int .i64 t622] 36 (0, 0)) (g169_) hb); replace HB := Aside0.mk (below_step (spec_GetsOf.calls_q0) hb); (try clear hb); (try clear hk hi)) | ((with_reducible refine gate_dst (N := 15) rfl ?_); refine bx_ (N := 15) #[.int .i64 0, .int .i64 0] 36 ?_; intro gb628 hg w114 hbox hb; replace HO_6 := Aside0.mk (Kd.R_below (Kd.R_elderB (uf1_ HO_6) gb628 (Nat.le_of_eq hg.symm)) hb); replace HO_7 := Aside0.mk (Kd.R_below (uf1_ HO_7) hb); have BK628 := Aside0.mk (hbox); have GW628 := Aside0.mk ((g6_ : w.heap.size ≤ gb628)); have GE628 := Aside0.mk ((g6_ : w.heap.size ≤ gb628)); replace HB := Aside0.mk (below_step (spec_GetsOf.calls_q0) hb); have NB599_628 := Aside0.mk ((g25_ : gb599 ≠ gb628)); have NB628_599 := Aside0.mk ((g26_ : gb628 ≠ gb599)); replace BK599 := bb_ BK599 hb; have NB608_628 := Aside0.mk ((g27_ : gb608 ≠ gb628)); have NB628_608 := Aside0.mk ((g28_ : gb628 ≠ gb608)); replace BK608 := bb_ BK608 hb; have NB619_628 := Aside0.mk ((g39_ : gb619 ≠ gb628)); have NB628_619 := Aside0.mk ((g40_ : gb628 ≠ gb619)); replace BK619 := bb_ BK619 hb; have NB624_628 := Aside0.mk ((g170_ : gb624 ≠ gb628)); have NB628_624 := Aside0.mk ((g171_ : gb628 ≠ gb624)); replace BK624 := bb_ BK624 hb; clear hb hbox hg; have hnb115 := NB628_599.out; have hnc115 := NB599_628.out; have hnb116 := NB628_608.out; have hnc116 := NB608_628.out; have hnb117 := NB628_619.out; have hnc117 := NB619_628.out; have hnb118 := NB628_624.out; have hnc118 := NB624_628.out; obtain ⟨hcz119_0, hcz119_1, hfz119_0, hfz119_1⟩ := blk2_ BK628) | ((with_reducible refine gate_dst (N := 85) rfl ?_); refine Kd.R_lit k36 _ 36 ?hg (N := 85) ?hd (xs := ([] : List (S36))) (inner := []) (ok := fun _ => True) (okp := fun _ => True) ?hr ?hp (fun _ hk => hk) trivial (Below.refl _ _) (Nat.le_refl _) (by simp) ?_; (case hd => rfl); (case hg => rfl); (case hr => first | (go_simp; done) | (go_simp; rfl)); (case hp => exact (Reps.none _ _)); intro v633 w120 ho121 hb hg_ hnew_; clear hg_ hnew_; (first | rw [← Ny632.out] at ho121 | (simp only [Int.reduceToNat] at ho121; rw [← Ny632.out] at ho121)); replace HO_7 := Aside0.mk (Kd.R_below (by (with_reducible repeat (first | apply Kd.R_alloc | apply Kd.R_drewN | apply Kd.R_drew)); exact (Kd.R_mono (Kd.R_far (p := ⟨gb628, 1, none⟩) (Kd.R_far (p := ⟨gb628, 0, none⟩) (Kd.R_types HO_7.out BK628.out (by decide)) (fun _ hk => hk.2) (.int .i64 t625)) (fun _ hk => hk.2) (.int .i64 t626)) (fun _ h_ => h_.1))) hb); have HO634 := Aside0.mk (Kd.R_lower (Kd.R_newB (Kd.R_newB (Kd.R_newB (Kd.R_newB (Kd.R_new' ho121 (Kd.R_lt (g101_))) (g := gb608) (o := .cells #[.int .i64 x609000_2, .int .i64 x609001_2] 36 (0, 0)) (g102_)) (g := gb619) (o := .cells #[.int .i64 t616, .int .i64 t617] 36 (0, 0)) (g103_)) (g := gb624) (o := .cells #[.int .i64 t621, .int .i64 t622] 36 (0, 0)) (g104_)) (g := gb628) (o := .cells #[.int .i64 t625, .int .i64 t626] 36 (0, 0)) (g105_)) (below_size (spec_GetsOf.calls_q0))); replace HO_6 := Aside0.mk (Kd.R_elder' (g101_) (Kd.R_base ho121) hb); replace BK599 := Aside0.mk (blk_below (g := gb599) (o := .cells #[.slice (some ad607) l0_0.length c0_0, .slice (some ad613) l0_1.length c0_1] 26 (0, 0)) (by (with_reducible repeat (first | refine blk_drewN ?_ _ | refine blk_drew ?_ | refine blk_alloc ?_ _)); refine blk_far ?_ NB599_628.out _; (with_reducible repeat (first | refine blk_drewN ?_ _ | refine blk_drew ?_ | refine blk_alloc ?_ _)); refine blk_far ?_ NB599_628.out _; (with_reducible repeat (first | refine blk_drewN ?_ _ | refine blk_drew ?_ | refine blk_alloc ?_ _)); exact BK599.out) hb); replace BK608 := Aside0.mk (blk_below (g := gb608) (o := .cells #[.int .i64 x609000_2, .int .i64 x609001_2] 36 (0, 0)) (g102_) hb); replace BK619 := Aside0.mk (blk_below (g := gb619) (o := .cells #[.int .i64 t616, .int .i64 t617] 36 (0, 0)) (g103_) hb); replace BK624 := Aside0.mk (blk_below (g := gb624) (o := .cells #[.int .i64 t621, .int .i64 t622] 36 (0, 0)) (g104_) hb); replace BK628 := Aside0.mk (blk_below (g := gb628) (o := .cells #[.int .i64 t625, .int .i64 t626] 36 (0, 0)) (g105_) hb); replace HB := Aside0.mk (below_step (spec_GetsOf.calls_q0) hb); clear hb ho121))
          go_ret2
          exact ⟨_, g4_, by (with_reducible repeat (first | apply Kd.R_alloc | apply Kd.R_drewN | apply Kd.R_drew)); exact Kd.R_mono HO634.out (fun _ hk => trivial), spec_GetsOf.calls_q0⟩
       ·rw [if_neg c20] at H
        have c20b0 := decide_eq_false c20
        clear c20
        obtain ⟨c122, H⟩ := pos_ H
        have LMc122 := Aside0.mk c122
        clear c122
        obtain ⟨y609, hy609⟩ : ∃ y_ : List (S36), y_ = (x6_1 ++ [(⟨x609000_2, x609001_2⟩ : S36)]) := ⟨_, rfl⟩
        replace H : (spec_GetsOf.l0 k2 l1 y609 t604 (wrap64 (x8_1 + 1)) l0_0 l0_1) = some (r1, r2) := by first | (rw [hy609]; with_reducible exact H) | (have H2_ := (Option.bind_some _ _).symm.trans H; rw [hy609]; with_reducible exact H2_) | (have H2_ := (Option.bind_some _ _).symm.trans H; with_reducible exact H2_) | with_reducible exact H | (rw [hy609]; exact H) | exact H
        have Ny609 := Aside0.mk hy609
        clear hy609
        have H' := Aside0.mk H
        clear H
        have hnb123 := NB608_599.out
        have hnc123 := NB599_608.out
        obtain ⟨hcz124_0, hcz124_1, hfz124_0, hfz124_1⟩ := blk2_ BK608
        go_wp2_with (first | ((with_reducible refine gate_builtin (b := .append) (xs := #[.tmp 87, .tmp 89]) rfl ?_); at_builtin; refine Kd.R_append k36 (w0 := w) w.heap.size rfl (.tmp 87) (.tmp 89) 28 36 (.agg #[(.int .i64 0), (.int .i64 0)]) 16 rfl Try.underlying28 info36 rfl (by decide) (by omega) u6 x6_1 (⟨x609000_2, x609001_2⟩ : S36) [.int .i64 x609000_2, .int .i64 x609001_2] (fun k_ => k_ ≠ gb608) (fun _ => False) rfl rfl ?aP (fun _ hk => hk.elim) ?aF ?aO ?aB ?aS ?aL ?_; (case aP => exact k36_mkM _ _ _ (⟨x609000_2, x609001_2⟩ : S36)); (case aB => exact (spec_GetsOf.calls_q0)); (case aF => exact (fun k_ hk => Kd.freshB (g := gb608) (o := .cells #[.int .i64 x609000_2, .int .i64 x609001_2] 36 (0, 0)) (uf0_ BK608) k_ hk)); (case aO => exact (uf1_ HO_6)); (case aS => exact (below_size (spec_GetsOf.calls_q0))); (case aL => have := LMc122.out; omega); intro v610 w125 ho hb hg hat; rw [← Ny609.out] at ho; replace HO_7 := Aside0.mk (Kd.R_over' (uf1_ HO_7) (Kd.R_typed (uf1_ HO_6)) (by decide) hg); replace BK599 := Aside0.mk (blk_grown (g := gb599) (o := .cells #[.slice (some ad607) l0_0.length c0_0, .slice A0_1 l0_1.length c0_1] 26 (0, 0)) (uf0_ BK599) hg (Kd.R_ne HO_6.out BK599.out (by decide))); replace BK608 := Aside0.mk (blk_grown (g := gb608) (o := .cells #[.int .i64 x609000_2, .int .i64 x609001_2] 36 (0, 0)) (uf0_ BK608) hg (Kd.R_away HO_6.out (fun _ hk => hk))); replace HB := Aside0.mk (hb); have HO611 := Aside0.mk (ho); clear HO_6; clear ho hb hg hat))
        go_roundg k2
        case measure => have := HK1.out; have := HK2.out; omega
        case rel => exact ⟨(y609), (wrap64 (x8_1 + 1)), (g3_), H', ⟨g34_⟩, ⟨by (with_reducible repeat (first | apply Kd.R_alloc | apply Kd.R_drewN | apply Kd.R_drew)); exact Kd.R_mono HO611.out (fun _ hk => trivial)⟩, ⟨uf1_ HO_7⟩, ⟨uf0_ BK599⟩, ⟨spec_GetsOf.calls_q0⟩⟩
    ·rw [if_neg c13] at H
     have c13b0 := decide_eq_false c13
     clear c13
     simp only [Option.some.injEq, Prod.mk.injEq] at H
     obtain ⟨rfl, rfl⟩ := H
     go_wp2
     go_ret2
     exact ⟨_, g4_, uf1_ HO_6, spec_GetsOf.calls_q0⟩
 ·replace c4 := Bool.eq_false_iff.mpr c4
  subst c4
  replace H := ifn_ H
  simp only [Option.some.injEq, Prod.mk.injEq] at H
  obtain ⟨rfl, rfl⟩ := H
  go_enter Try.func30, Try.ntmps30
  go_wp2_with (first | ((with_reducible refine gate_dst (N := 2) rfl ?_); refine bx_ (N := 2) #[.slice A0_0 l0_0.length c0_0, .slice A0_1 l0_1.length c0_1] 26 ?_; intro gb599 hg w126 hbox hb; have BK599 := Aside0.mk (hbox); have GW599 := Aside0.mk ((g6_ : w.heap.size ≤ gb599)); have GE599 := Aside0.mk ((g6_ : w.heap.size ≤ gb599)); replace HB := Aside0.mk (below_step (spec_GetsOf.calls_q0) hb); clear hb hbox hg) | ((with_reducible refine gate_dst (N := 17) rfl ?_); refine Kd.R_lit k36 _ 36 ?hg (N := 17) ?hd (xs := ([] : List (S36))) (inner := []) (ok := fun _ => True) (okp := fun _ => True) ?hr ?hp (fun _ hk => hk) trivial (Below.refl _ _) (Nat.le_refl _) (by simp) ?_; (case hd => rfl); (case hg => rfl); (case hr => first | (go_simp; done) | (go_simp; rfl)); (case hp => exact (Reps.none _ _)); intro v601 w127 ho128 hb hg_ hnew_; clear hg_ hnew_; (first | rw [← Ny600.out] at ho128 | (simp only [Int.reduceToNat] at ho128; rw [← Ny600.out] at ho128)); have HO602 := Aside0.mk (Kd.R_lower ho128 (below_size (spec_GetsOf.calls_q0))); replace BK599 := bb_ BK599 hb; replace HB := Aside0.mk (below_step (spec_GetsOf.calls_q0) hb); clear hb ho128; obtain ⟨hcz129_0, hcz129_1, hfz129_0, hfz129_1⟩ := blk2_ BK599) | ((with_reducible refine gate_callee (f := 21) rfl ?_); refine goesL_ (some 20) rfl rfl Try.func21 k_ rfl #[.agg #[.slice A0_0 l0_0.length c0_0, .slice A0_1 l0_1.length c0_1], .slice A1 l1.length c1] rfl (g2_) ?_; (with_reducible refine (spec_PaysOk.calls k _ _ l0_0 _ _ l0_1 _ _ l1 false _ ?side1 ?side2 ?side3 ?side4 ?side5 ?side6 A3.out).mono ?_); (case side1 => exact uf4_ HR0_0); (case side2 => exact HC0_0.out); (case side3 => exact uf4_ HR0_1); (case side4 => exact HC0_1.out); (case side5 => exact uf4_ HR1); (case side6 => exact HC1.out); rintro e w130 ⟨rfl, hb⟩; refine ⟨_, rfl, ?_⟩; replace HO602 := Aside0.mk (Kd.R_below (uf1_ HO602) hb); replace BK599 := bb_ BK599 hb; replace HB := Aside0.mk (below_step (spec_GetsOf.calls_q0) hb); (try clear hb); (try clear hk hi)))
  go_ret2
  exact ⟨_, g4_, uf1_ HO602, spec_GetsOf.calls_q0⟩
def spec_LessOf.f (k : Nat) (a0_0 : Int) (a0_1 : Int) (a1_0 : Int) (a1_1 : Int) : Option (Int × Int × Bool) := (spec_PlusOf.f k a0_0 a0_1 (wrap64 (-a1_0)) a1_1).bind fun bt723 => (some (bt723.1, bt723.2.1, bt723.2.2))
theorem spec_LessOf.mq {p : Prop} (h : p := by
 repeat' first
 | (with_reducible exact spec_PlusOf.mono _ _ _ _ _)
 | (with_reducible exact LeO.refl _)
 | (with_reducible exact LeO.none _)
 | (with_reducible refine LeO.ite ?_ ?_)
 | (with_reducible refine LeO.bind ?_ (fun _ => ?_))
 | exact spec_PlusOf.mono _ _ _ _ _
 | exact LeO.none _
 | refine LeO.ite ?_ ?_
 | refine LeO.bind ?_ (fun _ => ?_)) : p := h
theorem spec_LessOf.mono : ∀ a0 a1 a2 a3 k, LeO (spec_LessOf.f k a0 a1 a2 a3) (spec_LessOf.f (k + 1) a0 a1 a2 a3) := by
 intro a0 a1 a2 a3 k
 unfold spec_LessOf.f
 exact spec_LessOf.mq
theorem spec_LessOf.calls_q0 {p : Prop} (h : p := by repeat (first | (with_reducible first | exact HB.out | apply below_alloc | apply pw_below_drewN | apply below_drew1 | refine below_set ?_ GE720.out | refine below_set ?_ GE721.out | refine below_set ?_ GE722.out) | exact HB.out)) : p := h
set_option maxHeartbeats 8000000 in
set_option maxRecDepth 100000 in
theorem spec_LessOf.calls (k : Nat) (a0_0 : Int) (a0_1 : Int) (a1_0 : Int) (a1_1 : Int) (r1 : Int) (r2 : Int) (r3 : Bool) (w : World) (h : spec_LessOf.f k a0_0 a0_1 a1_0 a1_1 = some (r1, r2, r3)) :
  Calls Try.prog 80 #[.agg #[.int .i64 a0_0, .int .i64 a0_1], .agg #[.int .i64 a1_0, .int .i64 a1_1]] w fun e w' => e = .returned (.tuple #[.agg #[.int .i64 r1, .int .i64 r2], .bool r3]) ∧ Below w.heap.size w w' := by
 have hu36 := Try.underlying36
 have HB := Aside0.mk (Below.refl w.heap.size w)
 have H : ((spec_PlusOf.f k a0_0 a0_1 (wrap64 (-a1_0)) a1_1).bind fun bt723 => (some (bt723.1, bt723.2.1, bt723.2.2))) = some (r1, r2, r3) := h
 clear h
 replace H := Option.bind_eq_some_iff.mp H
 obtain ⟨⟨t723, t724, t725⟩, A30, H⟩ := H
 replace H : (some (t723, t724, t725)) = some (r1, r2, r3) := H
 have A3 := Aside0.mk A30
 clear A30
 simp only [Option.some.injEq, Prod.mk.injEq] at H
 obtain ⟨rfl, rfl, rfl⟩ := H
 go_enter Try.func80, Try.ntmps80
 go_wp2_with (first | ((with_reducible refine gate_dst (N := 2) rfl ?_); refine bx_ (N := 2) #[.int .i64 a0_0, .int .i64 a0_1] 36 ?_; intro gb720 hg w4 hbox hb; have BK720 := Aside0.mk (hbox); have GW720 := Aside0.mk ((g77_ : w.heap.size ≤ gb720)); have GE720 := Aside0.mk ((g77_ : w.heap.size ≤ gb720)); replace HB := Aside0.mk (below_step (spec_LessOf.calls_q0) hb); clear hb hbox hg) | ((with_reducible refine gate_dst (N := 3) rfl ?_); refine bx_ (N := 3) #[.int .i64 a1_0, .int .i64 a1_1] 36 ?_; intro gb721 hg w5 hbox hb; have BK721 := Aside0.mk (hbox); have GW721 := Aside0.mk ((g77_ : w.heap.size ≤ gb721)); have GE721 := Aside0.mk ((g77_ : w.heap.size ≤ gb721)); replace HB := Aside0.mk (below_step (spec_LessOf.calls_q0) hb); have NB720_721 := Aside0.mk ((by rw [hg]; exact Nat.ne_of_lt (blk_lt (g := gb720) (o := .cells #[.int .i64 a0_0, .int .i64 a0_1] 36 (0, 0)) (uf0_ BK720)) : gb720 ≠ gb721)); have NB721_720 := Aside0.mk ((by rw [hg]; exact Nat.ne_of_gt (blk_lt (g := gb720) (o := .cells #[.int .i64 a0_0, .int .i64 a0_1] 36 (0, 0)) (uf0_ BK720)) : gb721 ≠ gb720)); replace BK720 := bb_ BK720 hb; clear hb hbox hg) | ((with_reducible refine gate_dst (N := 4) rfl ?_); refine bx_ (N := 4) #[.int .i64 0, .int .i64 0] 36 ?_; intro gb722 hg w6 hbox hb; have BK722 := Aside0.mk (hbox); have GW722 := Aside0.mk ((g77_ : w.heap.size ≤ gb722)); have GE722 := Aside0.mk ((g77_ : w.heap.size ≤ gb722)); replace HB := Aside0.mk (below_step (spec_LessOf.calls_q0) hb); have NB720_722 := Aside0.mk ((by rw [hg]; exact Nat.ne_of_lt (blk_lt (g := gb720) (o := .cells #[.int .i64 a0_0, .int .i64 a0_1] 36 (0, 0)) (uf0_ BK720)) : gb720 ≠ gb722)); have NB722_720 := Aside0.mk ((by rw [hg]; exact Nat.ne_of_gt (blk_lt (g := gb720) (o := .cells #[.int .i64 a0_0, .int .i64 a0_1] 36 (0, 0)) (uf0_ BK720)) : gb722 ≠ gb720)); replace BK720 := bb_ BK720 hb; have NB721_722 := Aside0.mk ((by rw [hg]; exact Nat.ne_of_lt (blk_lt (g := gb721) (o := .cells #[.int .i64 a1_0, .int .i64 a1_1] 36 (0, 0)) (uf0_ BK721)) : gb721 ≠ gb722)); have NB722_721 := Aside0.mk ((by rw [hg]; exact Nat.ne_of_gt (blk_lt (g := gb721) (o := .cells #[.int .i64 a1_0, .int .i64 a1_1] 36 (0, 0)) (uf0_ BK721)) : gb722 ≠ gb721)); replace BK721 := bb_ BK721 hb; clear hb hbox hg; have hnb7 := NB720_721.out; have hnc7 := NB721_720.out; have hnb8 := NB720_722.out; have hnc8 := NB722_720.out; obtain ⟨hcz9_0, hcz9_1, hfz9_0, hfz9_1⟩ := blk2_ BK720; have hnb10 := NB721_722.out; have hnc10 := NB722_721.out; obtain ⟨hcz11_0, hcz11_1, hfz11_0, hfz11_1⟩ := blk2_ BK721) | ((with_reducible refine gate_callee (f := 76) rfl ?_); refine goesL_ (some 13) rfl rfl Try.func76 k_ rfl #[.agg #[.int .i64 a0_0, .int .i64 a0_1], .agg #[.int .i64 (wrap64 (-a1_0)), .int .i64 a1_1]] rfl (g2_) ?_; (with_reducible refine (spec_PlusOf.calls k a0_0 a0_1 (wrap64 (-a1_0)) a1_1 t723 t724 t725 _ A3.out).mono ?_); rintro e w12 ⟨rfl, hb⟩; refine ⟨_, rfl, ?_⟩; replace BK720 := bb_ BK720 hb; replace BK721 := bb_ BK721 hb; replace BK722 := bb_ BK722 hb; replace HB := Aside0.mk (below_step (spec_LessOf.calls_q0) hb); (try clear hb); (try clear hk hi); obtain ⟨hcz13_0, hcz13_1, hfz13_0, hfz13_1⟩ := blk2_ BK722))
 refine bodyPost_ret (results_ct rfl _ _ gb722 36 #[.int .i64 t723, .int .i64 t724] (0, 0) _ rfl (by (with_reducible repeat (first | refine blk_drewN ?_ _ | refine blk_drew ?_ | refine blk_alloc ?_ _)); refine blk_put (cs := #[.int .i64 t723, .int .i64 0]) ?_ 1 _ rfl; (with_reducible repeat (first | refine blk_drewN ?_ _ | refine blk_drew ?_ | refine blk_alloc ?_ _)); refine blk_put (cs := #[.int .i64 0, .int .i64 0]) ?_ 0 _ rfl; (with_reducible repeat (first | refine blk_drewN ?_ _ | refine blk_drew ?_ | refine blk_alloc ?_ _)); exact BK722.out) Try.underlying36 rfl (g0_)) rfl ?_
 exact ⟨g4_, spec_LessOf.calls_q0⟩
mutual
def spec_KeepsOf.l0 : Nat → List (S36) → List (S36) → Bool → List (S36) → Int → Option ((List (S36)) × Bool)
 | 0, _, _, _, _, _ => none
 | k + 1, x1, x6, x7, x8, x9 => if x9 < (x6.length : Int) then (spec_KeepsOf.j1 k x1 x6 x7 x8 x9 x7) else (spec_KeepsOf.j1 k x1 x6 x7 x8 x9 false)
def spec_KeepsOf.j1 : Nat → List (S36) → List (S36) → Bool → List (S36) → Int → Bool → Option ((List (S36)) × Bool)
 | 0, _, _, _, _, _, _ => none
 | k + 1, x1, x6, x7, x8, x9, x25 => if x25 = true then (if 0 ≤ x9 then (if x9 < (x6.length : Int) then (if x9 < (x1.length : Int) then ((spec_LessOf.f k ((rd_T36 x6 x9).f0) ((rd_T36 x6 x9).f1) ((rd_T36 x1 x9).f0) ((rd_T36 x1 x9).f1)).bind fun bt736 => (if bt736.2.2 = true then (if x8.length < 8796093022208 then (spec_KeepsOf.l0 k x1 x6 x7 (x8 ++ [(⟨bt736.1, bt736.2.1⟩ : S36)]) (wrap64 (x9 + 1))) else (none)) else (some ((([] : List (S36))), false)))) else (none)) else (none)) else (none)) else (some (x8, x7))
end
def spec_KeepsOf.f (k : Nat) (l0_0 : List Int) (l0_1 : List (List Int)) (l1 : List (S36)) : Option ((List (S36)) × Bool) := (spec_GetsOf.f k l0_0 l0_1 l1).bind fun bt727 => (spec_KeepsOf.l0 k l1 bt727.1 bt727.2 (([] : List (S36))) 0)
theorem spec_KeepsOf.mq {p : Prop} (h : p := by
 repeat' first
 | (with_reducible exact ih0 _ _ _ _ _)
 | (with_reducible exact ih1 _ _ _ _ _ _)
 | (with_reducible exact spec_GetsOf.mono _ _ _ _)
 | (with_reducible exact spec_LessOf.mono _ _ _ _ _)
 | (with_reducible exact LeO.refl _)
 | (with_reducible exact LeO.none _)
 | (with_reducible refine LeO.ite ?_ ?_)
 | (with_reducible refine LeO.bind ?_ (fun _ => ?_))
 | exact ih0 _ _ _ _ _
 | exact ih1 _ _ _ _ _ _
 | exact spec_GetsOf.mono _ _ _ _
 | exact spec_LessOf.mono _ _ _ _ _
 | exact LeO.none _
 | refine LeO.ite ?_ ?_
 | refine LeO.bind ?_ (fun _ => ?_)) : p := h
theorem spec_KeepsOf.mono_l : ∀ k, (∀ y0 y1 y2 y3 y4, LeO (spec_KeepsOf.l0 k y0 y1 y2 y3 y4) (spec_KeepsOf.l0 (k + 1) y0 y1 y2 y3 y4)) ∧ (∀ y0 y1 y2 y3 y4 y5, LeO (spec_KeepsOf.j1 k y0 y1 y2 y3 y4 y5) (spec_KeepsOf.j1 (k + 1) y0 y1 y2 y3 y4 y5))
 | 0 => ⟨fun _ _ _ _ _ r h => by simp [spec_KeepsOf.l0] at h, fun _ _ _ _ _ _ r h => by simp [spec_KeepsOf.j1] at h⟩
 | k + 1 => by
  obtain ⟨ih0, ih1⟩ := spec_KeepsOf.mono_l k
  refine ⟨?_, ?_⟩
  ·intro y0 y1 y2 y3 y4
   unfold spec_KeepsOf.l0
   exact spec_KeepsOf.mq
  ·intro y0 y1 y2 y3 y4 y5
   unfold spec_KeepsOf.j1
   exact spec_KeepsOf.mq
theorem spec_KeepsOf.mono : ∀ a0 a1 a2 k, LeO (spec_KeepsOf.f k a0 a1 a2) (spec_KeepsOf.f (k + 1) a0 a1 a2) := by
 intro a0 a1 a2 k
 obtain ⟨ih0, ih1⟩ := spec_KeepsOf.mono_l k
 unfold spec_KeepsOf.f
 exact spec_KeepsOf.mq
def spec_KeepsOf.T6 : Bool × List (List Nat × List Nat) := (true, [([], []), ([], []), ([0, 1], [0, 1]), ([2], [2]), ([], []), ([], []), ([4, 5], [4, 5]), ([6], [6]), ([3, 7], [3, 7]), ([8], [8]), ([9], [9]), ([9], [9]), ([], []), ([12, 10, 8, 0, 1, 2, 3, 4, 5, 6, 7, 8, 9, 10, 12], [10, 12]), ([11, 13, 0, 1, 2, 3, 4, 5, 6, 7, 8, 9, 10, 11, 12, 13], [11])])
def spec_KeepsOf.B6 : List Nat := [0, 0, 3, 7, 0, 0, 48, 112, 255, 511, 1023, 1023, 0, 6143, 16383]
theorem spec_KeepsOf.tab6 : rtab .any (opsOf Try.f35 6) = spec_KeepsOf.T6 := by kernel_rfl
theorem spec_KeepsOf.bits6 : waitsOk spec_KeepsOf.T6.2 spec_KeepsOf.B6 = true := by kernel_rfl
theorem spec_KeepsOf.calls_q0 {p : Prop} (h : p := by repeat (first | (with_reducible first | exact HB.out | apply below_alloc | apply pw_below_drewN | apply below_drew1 | refine below_set ?_ GE726.out | refine below_set ?_ GE739.out) | exact HB.out)) : p := h
set_option maxHeartbeats 8000000 in
set_option maxRecDepth 100000 in
theorem spec_KeepsOf.calls (k : Nat) (A0_0 : Option Addr) (c0_0 : Nat) (l0_0 : List Int) (A0_1 : Option Addr) (c0_1 : Nat) (l0_1 : List (List Int)) (A1 : Option Addr) (c1 : Nat) (l1 : List (S36)) (r1 : List (S36)) (r2 : Bool) (w : World) (hr0_0 : Kd.C (Kd.int .i64) w A0_0 l0_0.length l0_0) (hc0_0 : l0_0.length ≤ c0_0) (hr0_1 : Kd.C (Kd.slice 3 (Kd.int .i64)) w A0_1 l0_1.length l0_1) (hc0_1 : l0_1.length ≤ c0_1) (hr1 : Kd.C k36 w A1 l1.length l1) (hc1 : l1.length ≤ c1) (h : spec_KeepsOf.f k l0_0 l0_1 l1 = some (r1, r2)) :
  Calls Try.prog 35 #[.agg #[.slice A0_0 l0_0.length c0_0, .slice A0_1 l0_1.length c0_1], .slice A1 l1.length c1] w fun e w' => ∃ v0_ : Value, e = .returned (.tuple #[v0_, .bool r2]) ∧ Kd.R k36 36 w' w.heap.size (fun _ => True) v0_ r1 ∧ Below w.heap.size w w' := by
 have hu26 := Try.underlying26
 have hu36 := Try.underlying36
 have HR0_0 := Aside0.mk hr0_0
 have HC0_0 := Aside0.mk hc0_0
 clear hr0_0 hc0_0
 have HR0_1 := Aside0.mk hr0_1
 have HC0_1 := Aside0.mk hc0_1
 clear hr0_1 hc0_1
 have HR1 := Aside0.mk hr1
 have HC1 := Aside0.mk hc1
 clear hr1 hc1
 have HB := Aside0.mk (Below.refl w.heap.size w)
 have H : ((spec_GetsOf.f k l0_0 l0_1 l1).bind fun bt727 => (spec_KeepsOf.l0 k l1 bt727.1 bt727.2 (([] : List (S36))) 0)) = some (r1, r2) := h
 clear h
 replace H := Option.bind_eq_some_iff.mp H
 obtain ⟨⟨t727, t730⟩, A30, H⟩ := H
 replace H : (spec_KeepsOf.l0 k l1 t727 t730 (([] : List (S36))) 0) = some (r1, r2) := H
 have A3 := Aside0.mk A30
 clear A30
 obtain ⟨y731, hy731⟩ : ∃ y_ : List (S36), y_ = (([] : List (S36))) := ⟨_, rfl⟩
 replace H : (spec_KeepsOf.l0 k l1 t727 t730 y731 0) = some (r1, r2) := by first | (rw [hy731]; with_reducible exact H) | (have H2_ := (Option.bind_some _ _).symm.trans H; rw [hy731]; with_reducible exact H2_) | (have H2_ := (Option.bind_some _ _).symm.trans H; with_reducible exact H2_) | with_reducible exact H | (rw [hy731]; exact H) | exact H
 have Ny731 := Aside0.mk hy731
 clear hy731
 have H' := Aside0.mk H
 clear H
 go_enter Try.func35, Try.ntmps35
 go_wp2_with (first | ((with_reducible refine gate_dst (N := 2) rfl ?_); refine bx_ (N := 2) #[.slice A0_0 l0_0.length c0_0, .slice A0_1 l0_1.length c0_1] 26 ?_; intro gb726 hg w4 hbox hb; have BK726 := Aside0.mk (hbox); have GW726 := Aside0.mk ((g35_ : w.heap.size ≤ gb726)); have GE726 := Aside0.mk ((g35_ : w.heap.size ≤ gb726)); replace HB := Aside0.mk (below_step (spec_KeepsOf.calls_q0) hb); clear hb hbox hg; obtain ⟨hcz5_0, hcz5_1, hfz5_0, hfz5_1⟩ := blk2_ BK726) | ((with_reducible refine gate_callee (f := 30) rfl ?_); refine goesL_ (some 15) rfl rfl Try.func30 k_ rfl #[.agg #[.slice A0_0 l0_0.length c0_0, .slice A0_1 l0_1.length c0_1], .slice A1 l1.length c1] rfl (g2_) ?_; (with_reducible refine (spec_GetsOf.calls k _ _ l0_0 _ _ l0_1 _ _ l1 t727 t730 _ ?side1 ?side2 ?side3 ?side4 ?side5 ?side6 A3.out).mono ?_); (case side1 => exact uf4_ HR0_0); (case side2 => exact HC0_0.out); (case side3 => exact uf4_ HR0_1); (case side4 => exact HC0_1.out); (case side5 => exact uf4_ HR1); (case side6 => exact HC1.out); rintro e w6 ⟨v728, rfl, ho0, hb⟩; refine ⟨_, rfl, ?_⟩; have HO729 := Aside0.mk (Kd.R_lower ho0 (below_size (spec_KeepsOf.calls_q0))); replace BK726 := bb_ BK726 hb; replace HB := Aside0.mk (below_step (spec_KeepsOf.calls_q0) hb); (try clear hb); (try clear hk hi); (try clear ho0)) | ((with_reducible refine gate_dst (N := 18) rfl ?_); refine Kd.R_lit k36 _ 36 ?hg (N := 18) ?hd (xs := ([] : List (S36))) (inner := []) (ok := fun _ => True) (okp := fun _ => True) ?hr ?hp (fun _ hk => hk) trivial (Below.refl _ _) (Nat.le_refl _) (by simp) ?_; (case hd => rfl); (case hg => rfl); (case hr => first | (go_simp; done) | (go_simp; rfl)); (case hp => exact (Reps.none _ _)); intro v732 w7 ho8 hb hg_ hnew_; clear hg_ hnew_; (first | rw [← Ny731.out] at ho8 | (simp only [Int.reduceToNat] at ho8; rw [← Ny731.out] at ho8)); have HO733 := Aside0.mk (Kd.R_lower (Kd.R_new' ho8 (Kd.R_lt (uf1_ HO729))) (below_size (spec_KeepsOf.calls_q0))); replace HO729 := Aside0.mk (Kd.R_elder' (uf1_ HO729) (Kd.R_base ho8) hb); replace BK726 := bb_ BK726 hb; replace HB := Aside0.mk (below_step (spec_KeepsOf.calls_q0) hb); clear hb ho8))
 go_loopg [8, 9] k (fun kq v8 v9 w' => ∃ (x8_1 : List (S36)) (x9_1 : Int), v9 = .int .i64 x9_1 ∧ Aside0 (spec_KeepsOf.l0 kq l1 t727 t730 x8_1 x9_1 = some (r1, r2)) ∧ Aside0 (kq ≤ k) ∧ Aside0 (Kd.R k36 36 w' w.heap.size (fun k_ => some k_ ≠ (v8 : Value).ownBlock) v728 t727) ∧ Aside0 (Kd.R k36 36 w' w.heap.size (fun k_ => some k_ ≠ (v728 : Value).ownBlock) v8 x8_1) ∧ Aside0 (w'.heap[gb726]? = some (.cells #[(.slice A0_0 l0_0.length c0_0), (.slice A0_1 l0_1.length c0_1)] 26 (0, 0))) ∧ Aside0 (Below w.heap.size w w'))
 case atStart => exact ⟨(y731), (0), (g3_), H', ⟨Nat.le_refl _⟩, ⟨by (with_reducible repeat (first | apply Kd.R_alloc | apply Kd.R_drewN | apply Kd.R_drew)); exact Kd.R_mono HO729.out (fun _ hk => hk.2)⟩, ⟨by (with_reducible repeat (first | apply Kd.R_alloc | apply Kd.R_drewN | apply Kd.R_drew)); exact Kd.R_mono HO733.out (fun _ hk => hk.2)⟩, ⟨uf0_ BK726⟩, ⟨spec_KeepsOf.calls_q0⟩⟩
 case round =>
  clear H'
  try clear c1
  try clear p2
  try clear c3
  try clear hcz5_0
  try clear hcz5_1
  try clear hfz5_0
  try clear hfz5_1
  obtain ⟨x8_1, x9_1, rfl, HA, HK1, HO_6, HO_8, BK726, HB⟩ := hrel
  cases gk with
  | zero => exact absurd HA.out (by simp [spec_KeepsOf.l0])
  | succ k1 =>
   have H := HA.out
   clear HA
   simp only [spec_KeepsOf.l0] at H
   have HC9 := Aside0.mk H
   clear H
   go_upto_region 4 with (fail)
   go_cut [25] (fun v25 wc => ∃ (kq : Nat) (x25_8 : Bool), v25 = .bool x25_8 ∧ Aside0 (spec_KeepsOf.j1 kq l1 t727 t730 x8_1 x9_1 x25_8 = some (r1, r2)) ∧ Aside0 (kq ≤ k1) ∧ Aside0 (Kd.R k36 36 wc w.heap.size (fun k_ => some k_ ≠ (u8 : Value).ownBlock) v728 t727) ∧ Aside0 (Kd.R k36 36 wc w.heap.size (fun k_ => some k_ ≠ (v728 : Value).ownBlock) u8 x8_1) ∧ Aside0 (wc.heap[gb726]? = some (.cells #[(.slice A0_0 l0_0.length c0_0), (.slice A0_1 l0_1.length c0_1)] 26 (0, 0))) ∧ Aside0 (Below w.heap.size w wc))
   case first =>
    have H := HC9.out
    clear HC9
    by_cases c10 : x9_1 < (t727.length : Int)
    ·rw [if_pos c10] at H
     have c10b0 := decide_eq_true c10
     clear c10
     (first | rw [c10b0] | (simp only [i64_w, i32_w]; rw [c10b0]) | skip)
     have H' := Aside0.mk H
     clear H
     obtain ⟨Ao11, co11, eo11⟩ := Kd.R_slice HO_6.out
     subst eo11
     go_wp2
     go_meet
     case rel => exact ⟨_, (t730), (g3_), H', ⟨g30_⟩, ⟨uf1_ HO_6⟩, ⟨uf1_ HO_8⟩, ⟨uf0_ BK726⟩, ⟨spec_KeepsOf.calls_q0⟩⟩
    ·rw [if_neg c10] at H
     have c10b0 := decide_eq_false c10
     clear c10
     (first | rw [c10b0] | (simp only [i64_w, i32_w]; rw [c10b0]) | skip)
     have H' := Aside0.mk H
     clear H
     obtain ⟨Ao12, co12, eo12⟩ := Kd.R_slice HO_6.out
     subst eo12
     go_wp2
     go_meet
     case rel => exact ⟨_, (false), (g3_), H', ⟨g30_⟩, ⟨uf1_ HO_6⟩, ⟨uf1_ HO_8⟩, ⟨uf0_ BK726⟩, ⟨spec_KeepsOf.calls_q0⟩⟩
   case rest =>
    clear HC9
    try clear c1
    try clear p2
    try clear c3
    try clear c10
    try clear c10b0
    try clear hcz5_0
    try clear hcz5_1
    try clear hfz5_0
    try clear hfz5_1
    try clear p2
    obtain ⟨kq, x25_8, rfl, HA, HJ8, HO_6, HO_8, BK726, HB⟩ := hcut
    cases kq with
    | zero => exact absurd HA.out (by simp [spec_KeepsOf.j1])
    | succ kj8 =>
     have H := HA.out
     clear HA
     simp only [spec_KeepsOf.j1] at H
     by_cases c13 : x25_8 = true
     ·subst c13
      replace H := ifp_ H
      obtain ⟨c14, H⟩ := pos_ H
      have c14b0 := decide_eq_true c14
      clear c14
      obtain ⟨c15, H⟩ := pos_ H
      have c15b0 := decide_eq_true c15
      clear c15
      obtain ⟨c16, H⟩ := pos_ H
      have c16b0 := decide_eq_true c16
      clear c16
      replace H := Option.bind_eq_some_iff.mp H
      obtain ⟨⟨t736, t737, t738⟩, A170, H⟩ := H
      replace H : (if t738 = true then (if x8_1.length < 8796093022208 then (spec_KeepsOf.l0 kj8 l1 t727 t730 (x8_1 ++ [(⟨t736, t737⟩ : S36)]) (wrap64 (x9_1 + 1))) else (none)) else (some ((([] : List (S36))), false))) = some (r1, r2) := H
      have A17 := Aside0.mk A170
      clear A170
      by_cases c18 : t738 = true
      ·subst c18
       replace H := ifp_ H
       obtain ⟨c19, H⟩ := pos_ H
       have LMc19 := Aside0.mk c19
       clear c19
       obtain ⟨y740, hy740⟩ : ∃ y_ : List (S36), y_ = (x8_1 ++ [(⟨t736, t737⟩ : S36)]) := ⟨_, rfl⟩
       replace H : (spec_KeepsOf.l0 kj8 l1 t727 t730 y740 (wrap64 (x9_1 + 1))) = some (r1, r2) := by first | (rw [hy740]; with_reducible exact H) | (have H2_ := (Option.bind_some _ _).symm.trans H; rw [hy740]; with_reducible exact H2_) | (have H2_ := (Option.bind_some _ _).symm.trans H; with_reducible exact H2_) | with_reducible exact H | (rw [hy740]; exact H) | exact H
       have Ny740 := Aside0.mk hy740
       clear hy740
       have H' := Aside0.mk H
       clear H
       try go_wp2
       replace HO_6 := Aside0.mk (Kd.R_drew HO_6.out)
       replace HO_8 := Aside0.mk (Kd.R_drew HO_8.out)
       replace BK726 := Aside0.mk (blk_drew BK726.out)
       replace HB := Aside0.mk (below_drew1 HB.out)
       obtain ⟨Ao21, co21, eo21⟩ := Kd.R_slice HO_6.out
       (first | subst eo21 | (injection eo21 with f1_ f2_ f3_; have f4_ := f1_.symm; have f5_ := f3_.symm; clear f1_ f2_ f3_; subst f4_; subst f5_))
       have p734 : 0 ≤ (x9_1 : Int) := of_decide_eq_true (g1_)
       have q734 : x9_1 < (t727.length : Int) := of_decide_eq_true (g1_)
       obtain ⟨ad734, e734, hx734_0, hx734_1⟩ := at_T36 (Kd.R_reads' HO_6.out).2.2 x9_1 p734 q734
       cases e734
       replace p734 := eq_true p734
       replace q734 := eq_true q734
       have p735 : 0 ≤ (x9_1 : Int) := of_decide_eq_true (g1_)
       have q735 : x9_1 < (l1.length : Int) := of_decide_eq_true (g1_)
       obtain ⟨ad735, e735, hx735_0, hx735_1⟩ := at_T36 HR1.out x9_1 p735 q735
       have hw735_1 := hx735_1
       have hw735_0 := hx735_0
       cases e735
       replace hx735_0 := cl_ HB hx735_0
       replace hx735_1 := cl_ HB hx735_1
       replace p735 := eq_true p735
       replace q735 := eq_true q735
       refine start_ (n := 15) (S := fun w' => w'.cell? (ad734.add ((x9_1).toNat * 2)) = some (.int .i64 ((rd_T36 t727 x9_1).f0)) ∧ w'.cell? ⟨(ad734.add ((x9_1).toNat * 2)).block, (ad734.add ((x9_1).toNat * 2)).off + 1, none⟩ = some (.int .i64 ((rd_T36 t727 x9_1).f1)) ∧ w'.cell? (ad735.add ((x9_1).toNat * 2)) = some (.int .i64 ((rd_T36 l1 x9_1).f0)) ∧ w'.cell? ⟨(ad735.add ((x9_1).toNat * 2)).block, (ad735.add ((x9_1).toNat * 2)).off + 1, none⟩ = some (.int .i64 ((rd_T36 l1 x9_1).f1))) (ds := []) (tl_ 15 0) (g0_) rfl (g0_) ⟨hx734_0, hx734_1, ((cl_ HB hw735_0).trans rfl), ((cl_ HB hw735_1).trans rfl)⟩ (fun hHeld => ?_); refine with_tabW spec_KeepsOf.tab6 spec_KeepsOf.bits6 (fun HT_ HW_ => ?_)
       generalize wc.drew = w20 at HO_6 HO_8 BK726 HB hx734_0 hx734_1 hx735_0 hx735_1 hHeld ⊢
       refine pw_ 0 29 (tl_ 15 1) rfl rfl ?_
       refine pw_ 1 30 (tl_ 15 3) rfl rfl ?_
       refine pw_ 2 31 (tl_ 15 7) rfl rfl ?_
       refine pw_ 4 33 (tl_ 15 23) rfl rfl ?_
       refine pw_ 5 34 (tl_ 15 55) rfl rfl ?_
       refine pw_ 6 35 (tl_ 15 119) rfl rfl ?_
       refine tk3_ 3 32 (tl_ 15 127) rfl rfl hHeld ?_
       refine tk3_ 7 36 (tl_ 15 255) rfl rfl hHeld ?_
       refine join_ (σ := Nat) 2 (tl_ 15 8191) (fun s_ => [(37, .tuple #[.agg #[.int .i64 t736, .int .i64 t737], .bool true]), (10, .pointer (some ⟨s_, 0, none⟩)), (28, .tuple #[.agg #[.int .i64 t736, .int .i64 t737], .bool true]), (38, .agg #[.int .i64 t736, .int .i64 t737]), (39, .bool true)]) (fun s_ w' => (w'.cell? (ad734.add ((x9_1).toNat * 2)) = some (.int .i64 ((rd_T36 t727 x9_1).f0)) ∧ w'.cell? ⟨(ad734.add ((x9_1).toNat * 2)).block, (ad734.add ((x9_1).toNat * 2)).off + 1, none⟩ = some (.int .i64 ((rd_T36 t727 x9_1).f1)) ∧ w'.cell? (ad735.add ((x9_1).toNat * 2)) = some (.int .i64 ((rd_T36 l1 x9_1).f0)) ∧ w'.cell? ⟨(ad735.add ((x9_1).toNat * 2)).block, (ad735.add ((x9_1).toNat * 2)).off + 1, none⟩ = some (.int .i64 ((rd_T36 l1 x9_1).f1))) ∧ (Kd.R k36 36 w' w.heap.size (fun k_ => some k_ ≠ (u8 : Value).ownBlock ∧ k_ ≠ s_) (.slice (some ad734) t727.length co21) t727) ∧ (Kd.R k36 36 w' w.heap.size (fun k_ => some k_ ≠ (.slice (some ad734) t727.length co21 : Value).ownBlock ∧ k_ ≠ s_) u8 x8_1) ∧ (w'.heap[gb726]? = some (.cells #[.slice A0_0 l0_0.length c0_0, .slice A0_1 l0_1.length c0_1] 26 (0, 0))) ∧ (w'.heap[s_]? = some (.cells #[.int .i64 0, .int .i64 0] 36 (0, 0))) ∧ (w.heap.size ≤ s_) ∧ (w.heap.size ≤ s_) ∧ (gb726 ≠ s_) ∧ (s_ ≠ gb726) ∧ (Below w.heap.size w w')) ?_ ?_
       rotate_left
       ·intro hCont
        refine two_ (i := 8) (j := 12) (Ni := some 37) (Nj := some 10) (tl_ 15 511) (tl_ 15 4351) rfl rfl rfl rfl (two_of HT_.out (g0_)) (by decide) (by decide) (fun K hK => ?_) (fun K hK => ?_)
        ·skip
         refine goes_ Try.func80 (g0_) rfl #[.agg #[.int .i64 ((rd_T36 t727 x9_1).f0), .int .i64 ((rd_T36 t727 x9_1).f1)], .agg #[.int .i64 ((rd_T36 l1 x9_1).f0), .int .i64 ((rd_T36 l1 x9_1).f1)]] (by rfl) rfl rfl (g2_) ?_
         with_reducible refine (spec_LessOf.calls kj8 ((rd_T36 t727 x9_1).f0) ((rd_T36 t727 x9_1).f1) ((rd_T36 l1 x9_1).f0) ((rd_T36 l1 x9_1).f1) t736 t737 true _ A17.out).mono ?_
         rintro e w22 ⟨rfl, hb⟩
         have HS0_ := (hb.cell (World.block_lt_of_cell? _ _ (hHeld.1))).trans (hHeld.1)
         have HS1_ := (hb.cell (World.block_lt_of_cell? _ _ (hHeld.2.1))).trans (hHeld.2.1)
         refine ⟨_, rfl, ?_⟩
         replace HO_6 := Aside0.mk (Kd.R_below (uf1_ HO_6) hb)
         replace HO_8 := Aside0.mk (Kd.R_below (uf1_ HO_8) hb)
         replace BK726 := bb_ BK726 hb
         replace HB := Aside0.mk (below_step (spec_KeepsOf.calls_q0) hb)
         (try clear hb)
         (try clear hk hi)
         refine hK.out _ _ ⟨HS0_, HS1_, ((cl_ HB hw735_0).trans rfl), ((cl_ HB hw735_1).trans rfl)⟩ (fun hHeld => ?_)
         clear hK K
         refine nm_ ?_
         refine pw_ 9 28 (tl_ 15 1023) rfl rfl ?_
         refine pw_ 10 38 (tl_ 15 2047) rfl rfl ?_
         refine pw_ 11 39 (tl_ 15 4095) rfl rfl ?_
         refine one_ (i := 12) (N := some 10) (tl_ 15 8191) rfl rfl (one_of HT_.out (g0_)) (by decide) (fun K hK => ?_)
         refine bs_ (N := 10) #[.int .i64 0, .int .i64 0] 36 ?_
         intro gb739 hg w23 hbox hb
         have HS0_ := (hb.cell (World.block_lt_of_cell? _ _ (hHeld.1))).trans (hHeld.1)
         have HS1_ := (hb.cell (World.block_lt_of_cell? _ _ (hHeld.2.1))).trans (hHeld.2.1)
         replace HO_6 := Aside0.mk (Kd.R_below (Kd.R_elderB (uf1_ HO_6) gb739 (Nat.le_of_eq hg.symm)) hb)
         replace HO_8 := Aside0.mk (Kd.R_below (Kd.R_elderB (uf1_ HO_8) gb739 (Nat.le_of_eq hg.symm)) hb)
         have BK739 := Aside0.mk (hbox)
         have GW739 := Aside0.mk ((g35_ : w.heap.size ≤ gb739))
         have GE739 := Aside0.mk ((g35_ : w.heap.size ≤ gb739))
         replace HB := Aside0.mk (below_step (spec_KeepsOf.calls_q0) hb)
         have NB726_739 := Aside0.mk ((g108_ : gb726 ≠ gb739))
         have NB739_726 := Aside0.mk ((g109_ : gb739 ≠ gb726))
         replace BK726 := bb_ BK726 hb
         clear hb hbox hg
         refine hK.out _ _ ⟨HS0_, HS1_, ((cl_ HB hw735_0).trans rfl), ((cl_ HB hw735_1).trans rfl)⟩ (fun hHeld => ?_)
         clear hK K
         refine nm_ ?_
         exact norm_ (g8_) (hCont (gb739) _ ⟨hHeld, (uf1_ HO_6), (uf1_ HO_8), (uf0_ BK726), (uf0_ BK739), GW739.out, GE739.out, NB726_739.out, NB739_726.out, (spec_KeepsOf.calls_q0)⟩)
        ·skip
         refine bs_ (N := 10) #[.int .i64 0, .int .i64 0] 36 ?_
         intro gb739 hg w22 hbox hb
         have HS0_ := (hb.cell (World.block_lt_of_cell? _ _ (hHeld.1))).trans (hHeld.1)
         have HS1_ := (hb.cell (World.block_lt_of_cell? _ _ (hHeld.2.1))).trans (hHeld.2.1)
         replace HO_6 := Aside0.mk (Kd.R_below (Kd.R_elderB (uf1_ HO_6) gb739 (Nat.le_of_eq hg.symm)) hb)
         replace HO_8 := Aside0.mk (Kd.R_below (Kd.R_elderB (uf1_ HO_8) gb739 (Nat.le_of_eq hg.symm)) hb)
         have BK739 := Aside0.mk (hbox)
         have GW739 := Aside0.mk ((g35_ : w.heap.size ≤ gb739))
         have GE739 := Aside0.mk ((g35_ : w.heap.size ≤ gb739))
         replace HB := Aside0.mk (below_step (spec_KeepsOf.calls_q0) hb)
         have NB726_739 := Aside0.mk ((g108_ : gb726 ≠ gb739))
         have NB739_726 := Aside0.mk ((g109_ : gb739 ≠ gb726))
         replace BK726 := bb_ BK726 hb
         clear hb hbox hg
         refine hK.out _ _ ⟨HS0_, HS1_, ((cl_ HB hw735_0).trans rfl), ((cl_ HB hw735_1).trans rfl)⟩ (fun hHeld => ?_)
         clear hK K
         refine nm_ ?_
         refine one_ (i := 8) (N := some 37) (tl_ 15 4607) rfl rfl (one_of HT_.out (g0_)) (by decide) (fun K hK => ?_)
         refine goes_ Try.func80 (g0_) rfl #[.agg #[.int .i64 ((rd_T36 t727 x9_1).f0), .int .i64 ((rd_T36 t727 x9_1).f1)], .agg #[.int .i64 ((rd_T36 l1 x9_1).f0), .int .i64 ((rd_T36 l1 x9_1).f1)]] (by rfl) rfl rfl (g2_) ?_
         with_reducible refine (spec_LessOf.calls kj8 ((rd_T36 t727 x9_1).f0) ((rd_T36 t727 x9_1).f1) ((rd_T36 l1 x9_1).f0) ((rd_T36 l1 x9_1).f1) t736 t737 true _ A17.out).mono ?_
         rintro e w23 ⟨rfl, hb⟩
         have HS0_ := (hb.cell (World.block_lt_of_cell? _ _ (hHeld.1))).trans (hHeld.1)
         have HS1_ := (hb.cell (World.block_lt_of_cell? _ _ (hHeld.2.1))).trans (hHeld.2.1)
         refine ⟨_, rfl, ?_⟩
         replace HO_6 := Aside0.mk (Kd.R_below (uf1_ HO_6) hb)
         replace HO_8 := Aside0.mk (Kd.R_below (uf1_ HO_8) hb)
         replace BK726 := bb_ BK726 hb
         replace BK739 := bb_ BK739 hb
         replace HB := Aside0.mk (below_step (spec_KeepsOf.calls_q0) hb)
         (try clear hb)
         (try clear hk hi)
         refine hK.out _ _ ⟨HS0_, HS1_, ((cl_ HB hw735_0).trans rfl), ((cl_ HB hw735_1).trans rfl)⟩ (fun hHeld => ?_)
         clear hK K
         refine nm_ ?_
         refine pw_ 9 28 (tl_ 15 5119) rfl rfl ?_
         refine pw_ 10 38 (tl_ 15 6143) rfl rfl ?_
         refine pw_ 11 39 (tl_ 15 8191) rfl rfl ?_
         exact norm_ (g8_) (hCont (gb739) _ ⟨hHeld, (uf1_ HO_6), (uf1_ HO_8), (uf0_ BK726), (uf0_ BK739), GW739.out, GE739.out, NB726_739.out, NB739_726.out, (spec_KeepsOf.calls_q0)⟩)
       rintro gb739 w24 ⟨hS_, h0_, h1_, h2_, h3_, h4_, h5_, h6_, h7_, h8_⟩
       replace HO_6 : Aside0 (Kd.R k36 36 w24 w.heap.size (fun k_ => some k_ ≠ (u8 : Value).ownBlock ∧ k_ ≠ gb739) (.slice (some ad734) t727.length co21) t727) := ⟨h0_⟩
       replace HO_8 : Aside0 (Kd.R k36 36 w24 w.heap.size (fun k_ => some k_ ≠ (.slice (some ad734) t727.length co21 : Value).ownBlock ∧ k_ ≠ gb739) u8 x8_1) := ⟨h1_⟩
       replace BK726 : Aside0 (w24.heap[gb726]? = some (.cells #[.slice A0_0 l0_0.length c0_0, .slice A0_1 l0_1.length c0_1] 26 (0, 0))) := ⟨h2_⟩
       have BK739 : Aside0 (w24.heap[gb739]? = some (.cells #[.int .i64 0, .int .i64 0] 36 (0, 0))) := ⟨h3_⟩
       have GW739 : Aside0 (w.heap.size ≤ gb739) := ⟨h4_⟩
       have GE739 : Aside0 (w.heap.size ≤ gb739) := ⟨h5_⟩
       have NB726_739 : Aside0 (gb726 ≠ gb739) := ⟨h6_⟩
       have NB739_726 : Aside0 (gb739 ≠ gb726) := ⟨h7_⟩
       replace HB : Aside0 (Below w.heap.size w w24) := ⟨h8_⟩
       clear h0_ h1_ h2_ h3_ h4_ h5_ h6_ h7_ h8_
       have hHeld : w24.cell? (ad734.add ((x9_1).toNat * 2)) = some (.int .i64 ((rd_T36 t727 x9_1).f0)) ∧ w24.cell? ⟨(ad734.add ((x9_1).toNat * 2)).block, (ad734.add ((x9_1).toNat * 2)).off + 1, none⟩ = some (.int .i64 ((rd_T36 t727 x9_1).f1)) ∧ w24.cell? (ad735.add ((x9_1).toNat * 2)) = some (.int .i64 ((rd_T36 l1 x9_1).f0)) ∧ w24.cell? ⟨(ad735.add ((x9_1).toNat * 2)).block, (ad735.add ((x9_1).toNat * 2)).off + 1, none⟩ = some (.int .i64 ((rd_T36 l1 x9_1).f1)) := hS_
       refine norm_ (a' := ?_) ?_ ?_
       rotate_left
       ·simp only [putAll, Act.put, List.setIfInBounds_toArray, List.set_cons_zero, List.set_cons_succ]
        rfl
       refine one_ (i := 13) (N := none) (tl_ 15 16383) rfl rfl (one_of HT_.out (g0_)) (by decide) (fun K hK => ?_)
       have hs25 : w24.cell? ⟨gb739, 0, none⟩ = some (.int .i64 0) := (blk_cell BK739.out 0).trans rfl
       have hfs25 := blk_frozen BK739.out 0
       have hns25_0 := NB726_739.out
       have hms25_0 := NB739_726.out
       have hs26 : w24.cell? ⟨gb739, 1, none⟩ = some (.int .i64 0) := (blk_cell BK739.out 1).trans rfl
       have hfs26 := blk_frozen BK739.out 1
       have hns26_0 := NB726_739.out
       have hms26_0 := NB739_726.out
       refine skip_ (w1 := ?_) (by rfl) rfl ?_ ?_
       rotate_left
       ·go_simp
        rfl
       refine hK.out _ _ ⟨((cell_far (p := ⟨gb739, _, none⟩) (g19_) _).trans (((cell_far (p := ⟨gb739, _, none⟩) (g19_) _).trans (hHeld.1)))), ((cell_far (p := ⟨gb739, _, none⟩) (g19_) _).trans (((cell_far (p := ⟨gb739, _, none⟩) (g19_) _).trans (hHeld.2.1)))), ((cell_far (p := ⟨gb739, _, none⟩) (by first | exact Nat.ne_of_lt (Nat.lt_of_lt_of_le (by have := World.block_lt_of_cell? _ _ hw735_0; first | rwa [add_block] at this | exact this) GW739.out) | (rw [add_block]; exact Nat.ne_of_lt (Nat.lt_of_lt_of_le (by have := World.block_lt_of_cell? _ _ hw735_0; first | rwa [add_block] at this | exact this) GW739.out)) | (show (Addr.add _ _).block ≠ _; rw [add_block]; exact Nat.ne_of_lt (Nat.lt_of_lt_of_le (by have := World.block_lt_of_cell? _ _ hw735_0; first | rwa [add_block] at this | exact this) GW739.out)) | (dsimp only; exact Nat.ne_of_lt (Nat.lt_of_lt_of_le (by have := World.block_lt_of_cell? _ _ hw735_0; first | rwa [add_block] at this | exact this) GW739.out))) _).trans (((cell_far (p := ⟨gb739, _, none⟩) (by first | exact Nat.ne_of_lt (Nat.lt_of_lt_of_le (by have := World.block_lt_of_cell? _ _ hw735_0; first | rwa [add_block] at this | exact this) GW739.out) | (rw [add_block]; exact Nat.ne_of_lt (Nat.lt_of_lt_of_le (by have := World.block_lt_of_cell? _ _ hw735_0; first | rwa [add_block] at this | exact this) GW739.out)) | (show (Addr.add _ _).block ≠ _; rw [add_block]; exact Nat.ne_of_lt (Nat.lt_of_lt_of_le (by have := World.block_lt_of_cell? _ _ hw735_0; first | rwa [add_block] at this | exact this) GW739.out)) | (dsimp only; exact Nat.ne_of_lt (Nat.lt_of_lt_of_le (by have := World.block_lt_of_cell? _ _ hw735_0; first | rwa [add_block] at this | exact this) GW739.out))) _).trans (hHeld.2.2.1)))), ((cell_far (p := ⟨gb739, _, none⟩) (by first | exact Nat.ne_of_lt (Nat.lt_of_lt_of_le (by have := World.block_lt_of_cell? _ _ hw735_1; first | rwa [add_block] at this | exact this) GW739.out) | (rw [add_block]; exact Nat.ne_of_lt (Nat.lt_of_lt_of_le (by have := World.block_lt_of_cell? _ _ hw735_1; first | rwa [add_block] at this | exact this) GW739.out)) | (show (Addr.add _ _).block ≠ _; rw [add_block]; exact Nat.ne_of_lt (Nat.lt_of_lt_of_le (by have := World.block_lt_of_cell? _ _ hw735_1; first | rwa [add_block] at this | exact this) GW739.out)) | (dsimp only; exact Nat.ne_of_lt (Nat.lt_of_lt_of_le (by have := World.block_lt_of_cell? _ _ hw735_1; first | rwa [add_block] at this | exact this) GW739.out))) _).trans (((cell_far (p := ⟨gb739, _, none⟩) (by first | exact Nat.ne_of_lt (Nat.lt_of_lt_of_le (by have := World.block_lt_of_cell? _ _ hw735_1; first | rwa [add_block] at this | exact this) GW739.out) | (rw [add_block]; exact Nat.ne_of_lt (Nat.lt_of_lt_of_le (by have := World.block_lt_of_cell? _ _ hw735_1; first | rwa [add_block] at this | exact this) GW739.out)) | (show (Addr.add _ _).block ≠ _; rw [add_block]; exact Nat.ne_of_lt (Nat.lt_of_lt_of_le (by have := World.block_lt_of_cell? _ _ hw735_1; first | rwa [add_block] at this | exact this) GW739.out)) | (dsimp only; exact Nat.ne_of_lt (Nat.lt_of_lt_of_le (by have := World.block_lt_of_cell? _ _ hw735_1; first | rwa [add_block] at this | exact this) GW739.out))) _).trans (hHeld.2.2.2))))⟩ (fun hHeld => ?_)
       clear hK K
       refine pw_ 14 11 (tl_ 15 32767) rfl rfl ?_
       refine done_ (done_of HT_.out (g0_)) ?_
       have hnb27 := NB739_726.out
       have hnc27 := NB726_739.out
       obtain ⟨hcz28_0, hcz28_1, hfz28_0, hfz28_1⟩ := blk2_ BK739
       try go_wp2_with (first | ((with_reducible refine gate_builtin (b := .append) (xs := #[.tmp 43, .tmp 45]) rfl ?_); at_builtin; refine Kd.R_append k36 (w0 := w) w.heap.size rfl (.tmp 43) (.tmp 45) 28 36 (.agg #[(.int .i64 0), (.int .i64 0)]) 16 rfl Try.underlying28 info36 rfl (by decide) (by omega) u8 x8_1 (⟨t736, t737⟩ : S36) [.int .i64 t736, .int .i64 t737] (fun k_ => some k_ ≠ (.slice (some ad734) t727.length co21 : Value).ownBlock ∧ k_ ≠ gb739) (fun _ => False) rfl (g67_) ?aP (fun _ hk => hk.elim) ?aF ?aO ?aB ?aS ?aL ?_; (case aP => exact k36_mkM _ _ _ (⟨t736, t737⟩ : S36)); (case aB => exact (spec_KeepsOf.calls_q0)); (case aF => exact (fun k_ hk => ⟨Kd.fresh' (Kd.R_lt (g175_)) k_ hk, Kd.freshB (g := gb739) (o := .cells #[.int .i64 t736, .int .i64 t737] 36 (0, 0)) (g110_) k_ hk⟩)); (case aO => exact (by (with_reducible repeat (first | apply Kd.R_alloc | apply Kd.R_drewN | apply Kd.R_drew)); exact Kd.R_mono (Kd.R_far (p := ⟨gb739, 1, none⟩) (Kd.R_far (p := ⟨gb739, 0, none⟩) (Kd.R_mono HO_8.out (fun k_ hk => (⟨hk, hk.2⟩ : _ ∧ k_ ≠ gb739))) (fun _ hk => hk.2) (.int .i64 t736)) (fun _ hk => hk.2) (.int .i64 t737)) (fun _ hk => ⟨hk.1.1, hk.1.2⟩))); (case aS => exact (below_size (spec_KeepsOf.calls_q0))); (case aL => have := LMc19.out; omega); intro v741 w29 ho hb hg hat; rw [← Ny740.out] at ho; replace HO_6 := Aside0.mk (Kd.R_after (ok := (fun k_ => k_ ≠ gb739)) (by (with_reducible repeat (first | apply Kd.R_alloc | apply Kd.R_drewN | apply Kd.R_drew)); exact Kd.R_mono (Kd.R_far (p := ⟨gb739, 1, none⟩) (Kd.R_far (p := ⟨gb739, 0, none⟩) (Kd.R_mono HO_6.out (fun k_ hk => (⟨hk, hk.2⟩ : _ ∧ k_ ≠ gb739))) (fun _ hk => hk.2) (.int .i64 t736)) (fun _ hk => hk.2) (.int .i64 t737)) (fun _ hk => ⟨hk.1.2, hk.1.1⟩)) hg hat); replace BK726 := Aside0.mk (blk_grown (g := gb726) (o := .cells #[.slice A0_0 l0_0.length c0_0, .slice A0_1 l0_1.length c0_1] 26 (0, 0)) (by (with_reducible repeat (first | refine blk_drewN ?_ _ | refine blk_drew ?_ | refine blk_alloc ?_ _)); refine blk_far ?_ NB726_739.out _; (with_reducible repeat (first | refine blk_drewN ?_ _ | refine blk_drew ?_ | refine blk_alloc ?_ _)); refine blk_far ?_ NB726_739.out _; (with_reducible repeat (first | refine blk_drewN ?_ _ | refine blk_drew ?_ | refine blk_alloc ?_ _)); exact BK726.out) hg (Kd.R_ne HO_8.out BK726.out (by decide))); replace BK739 := Aside0.mk (blk_grown (g := gb739) (o := .cells #[.int .i64 t736, .int .i64 t737] 36 (0, 0)) (g110_) hg (Kd.R_away HO_8.out (fun _ hk => hk.2))); replace HB := Aside0.mk (hb); have HO742 := Aside0.mk (ho); clear HO_8; clear ho hb hg hat))
       go_roundg kj8
       case measure => have := HK1.out; have := HJ8.out; omega
       case rel => exact ⟨(y740), (wrap64 (x9_1 + 1)), (g3_), H', ⟨by have := HK1.out; have := HJ8.out; omega⟩, ⟨by (with_reducible repeat (first | apply Kd.R_alloc | apply Kd.R_drewN | apply Kd.R_drew)); exact Kd.R_mono HO_6.out (fun _ hk => hk.2)⟩, ⟨by (with_reducible repeat (first | apply Kd.R_alloc | apply Kd.R_drewN | apply Kd.R_drew)); exact Kd.R_mono HO742.out (fun _ hk => hk.1)⟩, ⟨uf0_ BK726⟩, ⟨spec_KeepsOf.calls_q0⟩⟩
      ·replace c18 := Bool.eq_false_iff.mpr c18
       subst c18
       replace H := ifn_ H
       obtain ⟨y743, hy743⟩ : ∃ y_ : List (S36), y_ = (([] : List (S36))) := ⟨_, rfl⟩
       replace H : (some (y743, false)) = some (r1, r2) := by first | (rw [hy743]; with_reducible exact H) | (have H2_ := (Option.bind_some _ _).symm.trans H; rw [hy743]; with_reducible exact H2_) | (have H2_ := (Option.bind_some _ _).symm.trans H; with_reducible exact H2_) | with_reducible exact H | (rw [hy743]; exact H) | exact H
       have Ny743 := Aside0.mk hy743
       clear hy743
       simp only [Option.some.injEq, Prod.mk.injEq] at H
       obtain ⟨rfl, rfl⟩ := H
       try go_wp2
       replace HO_6 := Aside0.mk (Kd.R_drew HO_6.out)
       replace HO_8 := Aside0.mk (Kd.R_drew HO_8.out)
       replace BK726 := Aside0.mk (blk_drew BK726.out)
       replace HB := Aside0.mk (below_drew1 HB.out)
       obtain ⟨Ao31, co31, eo31⟩ := Kd.R_slice HO_6.out
       (first | subst eo31 | (injection eo31 with f1_ f2_ f3_; have f4_ := f1_.symm; have f5_ := f3_.symm; clear f1_ f2_ f3_; subst f4_; subst f5_))
       have p734 : 0 ≤ (x9_1 : Int) := of_decide_eq_true (g1_)
       have q734 : x9_1 < (t727.length : Int) := of_decide_eq_true (g1_)
       obtain ⟨ad734, e734, hx734_0, hx734_1⟩ := at_T36 (Kd.R_reads' HO_6.out).2.2 x9_1 p734 q734
       cases e734
       replace p734 := eq_true p734
       replace q734 := eq_true q734
       have p735 : 0 ≤ (x9_1 : Int) := of_decide_eq_true (g1_)
       have q735 : x9_1 < (l1.length : Int) := of_decide_eq_true (g1_)
       obtain ⟨ad735, e735, hx735_0, hx735_1⟩ := at_T36 HR1.out x9_1 p735 q735
       have hw735_1 := hx735_1
       have hw735_0 := hx735_0
       cases e735
       replace hx735_0 := cl_ HB hx735_0
       replace hx735_1 := cl_ HB hx735_1
       replace p735 := eq_true p735
       replace q735 := eq_true q735
       refine start_ (n := 15) (S := fun w' => w'.cell? (ad734.add ((x9_1).toNat * 2)) = some (.int .i64 ((rd_T36 t727 x9_1).f0)) ∧ w'.cell? ⟨(ad734.add ((x9_1).toNat * 2)).block, (ad734.add ((x9_1).toNat * 2)).off + 1, none⟩ = some (.int .i64 ((rd_T36 t727 x9_1).f1)) ∧ w'.cell? (ad735.add ((x9_1).toNat * 2)) = some (.int .i64 ((rd_T36 l1 x9_1).f0)) ∧ w'.cell? ⟨(ad735.add ((x9_1).toNat * 2)).block, (ad735.add ((x9_1).toNat * 2)).off + 1, none⟩ = some (.int .i64 ((rd_T36 l1 x9_1).f1))) (ds := []) (tl_ 15 0) (g0_) rfl (g0_) ⟨hx734_0, hx734_1, ((cl_ HB hw735_0).trans rfl), ((cl_ HB hw735_1).trans rfl)⟩ (fun hHeld => ?_); refine with_tabW spec_KeepsOf.tab6 spec_KeepsOf.bits6 (fun HT_ HW_ => ?_)
       generalize wc.drew = w30 at HO_6 HO_8 BK726 HB hx734_0 hx734_1 hx735_0 hx735_1 hHeld ⊢
       refine pw_ 0 29 (tl_ 15 1) rfl rfl ?_
       refine pw_ 1 30 (tl_ 15 3) rfl rfl ?_
       refine pw_ 2 31 (tl_ 15 7) rfl rfl ?_
       refine pw_ 4 33 (tl_ 15 23) rfl rfl ?_
       refine pw_ 5 34 (tl_ 15 55) rfl rfl ?_
       refine pw_ 6 35 (tl_ 15 119) rfl rfl ?_
       refine tk3_ 3 32 (tl_ 15 127) rfl rfl hHeld ?_
       refine tk3_ 7 36 (tl_ 15 255) rfl rfl hHeld ?_
       refine join_ (σ := Nat) 2 (tl_ 15 8191) (fun s_ => [(37, .tuple #[.agg #[.int .i64 t736, .int .i64 t737], .bool false]), (10, .pointer (some ⟨s_, 0, none⟩)), (28, .tuple #[.agg #[.int .i64 t736, .int .i64 t737], .bool false]), (38, .agg #[.int .i64 t736, .int .i64 t737]), (39, .bool false)]) (fun s_ w' => (w'.cell? (ad734.add ((x9_1).toNat * 2)) = some (.int .i64 ((rd_T36 t727 x9_1).f0)) ∧ w'.cell? ⟨(ad734.add ((x9_1).toNat * 2)).block, (ad734.add ((x9_1).toNat * 2)).off + 1, none⟩ = some (.int .i64 ((rd_T36 t727 x9_1).f1)) ∧ w'.cell? (ad735.add ((x9_1).toNat * 2)) = some (.int .i64 ((rd_T36 l1 x9_1).f0)) ∧ w'.cell? ⟨(ad735.add ((x9_1).toNat * 2)).block, (ad735.add ((x9_1).toNat * 2)).off + 1, none⟩ = some (.int .i64 ((rd_T36 l1 x9_1).f1))) ∧ (Kd.R k36 36 w' w.heap.size (fun k_ => some k_ ≠ (u8 : Value).ownBlock ∧ k_ ≠ s_) (.slice (some ad734) t727.length co31) t727) ∧ (Kd.R k36 36 w' w.heap.size (fun k_ => some k_ ≠ (.slice (some ad734) t727.length co31 : Value).ownBlock ∧ k_ ≠ s_) u8 x8_1) ∧ (w'.heap[gb726]? = some (.cells #[.slice A0_0 l0_0.length c0_0, .slice A0_1 l0_1.length c0_1] 26 (0, 0))) ∧ (w'.heap[s_]? = some (.cells #[.int .i64 0, .int .i64 0] 36 (0, 0))) ∧ (w.heap.size ≤ s_) ∧ (w.heap.size ≤ s_) ∧ (gb726 ≠ s_) ∧ (s_ ≠ gb726) ∧ (Below w.heap.size w w')) ?_ ?_
       rotate_left
       ·intro hCont
        refine two_ (i := 8) (j := 12) (Ni := some 37) (Nj := some 10) (tl_ 15 511) (tl_ 15 4351) rfl rfl rfl rfl (two_of HT_.out (g0_)) (by decide) (by decide) (fun K hK => ?_) (fun K hK => ?_)
        ·skip
         refine goes_ Try.func80 (g0_) rfl #[.agg #[.int .i64 ((rd_T36 t727 x9_1).f0), .int .i64 ((rd_T36 t727 x9_1).f1)], .agg #[.int .i64 ((rd_T36 l1 x9_1).f0), .int .i64 ((rd_T36 l1 x9_1).f1)]] (by rfl) rfl rfl (g2_) ?_
         with_reducible refine (spec_LessOf.calls kj8 ((rd_T36 t727 x9_1).f0) ((rd_T36 t727 x9_1).f1) ((rd_T36 l1 x9_1).f0) ((rd_T36 l1 x9_1).f1) t736 t737 false _ A17.out).mono ?_
         rintro e w32 ⟨rfl, hb⟩
         have HS0_ := (hb.cell (World.block_lt_of_cell? _ _ (hHeld.1))).trans (hHeld.1)
         have HS1_ := (hb.cell (World.block_lt_of_cell? _ _ (hHeld.2.1))).trans (hHeld.2.1)
         refine ⟨_, rfl, ?_⟩
         replace HO_6 := Aside0.mk (Kd.R_below (uf1_ HO_6) hb)
         replace HO_8 := Aside0.mk (Kd.R_below (uf1_ HO_8) hb)
         replace BK726 := bb_ BK726 hb
         replace HB := Aside0.mk (below_step (spec_KeepsOf.calls_q0) hb)
         (try clear hb)
         (try clear hk hi)
         refine hK.out _ _ ⟨HS0_, HS1_, ((cl_ HB hw735_0).trans rfl), ((cl_ HB hw735_1).trans rfl)⟩ (fun hHeld => ?_)
         clear hK K
         refine nm_ ?_
         refine pw_ 9 28 (tl_ 15 1023) rfl rfl ?_
         refine pw_ 10 38 (tl_ 15 2047) rfl rfl ?_
         refine pw_ 11 39 (tl_ 15 4095) rfl rfl ?_
         refine one_ (i := 12) (N := some 10) (tl_ 15 8191) rfl rfl (one_of HT_.out (g0_)) (by decide) (fun K hK => ?_)
         refine bs_ (N := 10) #[.int .i64 0, .int .i64 0] 36 ?_
         intro gb739 hg w33 hbox hb
         have HS0_ := (hb.cell (World.block_lt_of_cell? _ _ (hHeld.1))).trans (hHeld.1)
         have HS1_ := (hb.cell (World.block_lt_of_cell? _ _ (hHeld.2.1))).trans (hHeld.2.1)
         replace HO_6 := Aside0.mk (Kd.R_below (Kd.R_elderB (uf1_ HO_6) gb739 (Nat.le_of_eq hg.symm)) hb)
         replace HO_8 := Aside0.mk (Kd.R_below (Kd.R_elderB (uf1_ HO_8) gb739 (Nat.le_of_eq hg.symm)) hb)
         have BK739 := Aside0.mk (hbox)
         have GW739 := Aside0.mk ((g35_ : w.heap.size ≤ gb739))
         have GE739 := Aside0.mk ((g35_ : w.heap.size ≤ gb739))
         replace HB := Aside0.mk (below_step (spec_KeepsOf.calls_q0) hb)
         have NB726_739 := Aside0.mk ((g108_ : gb726 ≠ gb739))
         have NB739_726 := Aside0.mk ((g109_ : gb739 ≠ gb726))
         replace BK726 := bb_ BK726 hb
         clear hb hbox hg
         refine hK.out _ _ ⟨HS0_, HS1_, ((cl_ HB hw735_0).trans rfl), ((cl_ HB hw735_1).trans rfl)⟩ (fun hHeld => ?_)
         clear hK K
         refine nm_ ?_
         exact norm_ (g8_) (hCont (gb739) _ ⟨hHeld, (uf1_ HO_6), (uf1_ HO_8), (uf0_ BK726), (uf0_ BK739), GW739.out, GE739.out, NB726_739.out, NB739_726.out, (spec_KeepsOf.calls_q0)⟩)
        ·skip
         refine bs_ (N := 10) #[.int .i64 0, .int .i64 0] 36 ?_
         intro gb739 hg w32 hbox hb
         have HS0_ := (hb.cell (World.block_lt_of_cell? _ _ (hHeld.1))).trans (hHeld.1)
         have HS1_ := (hb.cell (World.block_lt_of_cell? _ _ (hHeld.2.1))).trans (hHeld.2.1)
         replace HO_6 := Aside0.mk (Kd.R_below (Kd.R_elderB (uf1_ HO_6) gb739 (Nat.le_of_eq hg.symm)) hb)
         replace HO_8 := Aside0.mk (Kd.R_below (Kd.R_elderB (uf1_ HO_8) gb739 (Nat.le_of_eq hg.symm)) hb)
         have BK739 := Aside0.mk (hbox)
         have GW739 := Aside0.mk ((g35_ : w.heap.size ≤ gb739))
         have GE739 := Aside0.mk ((g35_ : w.heap.size ≤ gb739))
         replace HB := Aside0.mk (below_step (spec_KeepsOf.calls_q0) hb)
         have NB726_739 := Aside0.mk ((g108_ : gb726 ≠ gb739))
         have NB739_726 := Aside0.mk ((g109_ : gb739 ≠ gb726))
         replace BK726 := bb_ BK726 hb
         clear hb hbox hg
         refine hK.out _ _ ⟨HS0_, HS1_, ((cl_ HB hw735_0).trans rfl), ((cl_ HB hw735_1).trans rfl)⟩ (fun hHeld => ?_)
         clear hK K
         refine nm_ ?_
         refine one_ (i := 8) (N := some 37) (tl_ 15 4607) rfl rfl (one_of HT_.out (g0_)) (by decide) (fun K hK => ?_)
         refine goes_ Try.func80 (g0_) rfl #[.agg #[.int .i64 ((rd_T36 t727 x9_1).f0), .int .i64 ((rd_T36 t727 x9_1).f1)], .agg #[.int .i64 ((rd_T36 l1 x9_1).f0), .int .i64 ((rd_T36 l1 x9_1).f1)]] (by rfl) rfl rfl (g2_) ?_
         with_reducible refine (spec_LessOf.calls kj8 ((rd_T36 t727 x9_1).f0) ((rd_T36 t727 x9_1).f1) ((rd_T36 l1 x9_1).f0) ((rd_T36 l1 x9_1).f1) t736 t737 false _ A17.out).mono ?_
         rintro e w33 ⟨rfl, hb⟩
         have HS0_ := (hb.cell (World.block_lt_of_cell? _ _ (hHeld.1))).trans (hHeld.1)
         have HS1_ := (hb.cell (World.block_lt_of_cell? _ _ (hHeld.2.1))).trans (hHeld.2.1)
         refine ⟨_, rfl, ?_⟩
         replace HO_6 := Aside0.mk (Kd.R_below (uf1_ HO_6) hb)
         replace HO_8 := Aside0.mk (Kd.R_below (uf1_ HO_8) hb)
         replace BK726 := bb_ BK726 hb
         replace BK739 := bb_ BK739 hb
         replace HB := Aside0.mk (below_step (spec_KeepsOf.calls_q0) hb)
         (try clear hb)
         (try clear hk hi)
         refine hK.out _ _ ⟨HS0_, HS1_, ((cl_ HB hw735_0).trans rfl), ((cl_ HB hw735_1).trans rfl)⟩ (fun hHeld => ?_)
         clear hK K
         refine nm_ ?_
         refine pw_ 9 28 (tl_ 15 5119) rfl rfl ?_
         refine pw_ 10 38 (tl_ 15 6143) rfl rfl ?_
         refine pw_ 11 39 (tl_ 15 8191) rfl rfl ?_
         exact norm_ (g8_) (hCont (gb739) _ ⟨hHeld, (uf1_ HO_6), (uf1_ HO_8), (uf0_ BK726), (uf0_ BK739), GW739.out, GE739.out, NB726_739.out, NB739_726.out, (spec_KeepsOf.calls_q0)⟩)
       rintro gb739 w34 ⟨hS_, h0_, h1_, h2_, h3_, h4_, h5_, h6_, h7_, h8_⟩
       replace HO_6 : Aside0 (Kd.R k36 36 w34 w.heap.size (fun k_ => some k_ ≠ (u8 : Value).ownBlock ∧ k_ ≠ gb739) (.slice (some ad734) t727.length co31) t727) := ⟨h0_⟩
       replace HO_8 : Aside0 (Kd.R k36 36 w34 w.heap.size (fun k_ => some k_ ≠ (.slice (some ad734) t727.length co31 : Value).ownBlock ∧ k_ ≠ gb739) u8 x8_1) := ⟨h1_⟩
       replace BK726 : Aside0 (w34.heap[gb726]? = some (.cells #[.slice A0_0 l0_0.length c0_0, .slice A0_1 l0_1.length c0_1] 26 (0, 0))) := ⟨h2_⟩
       have BK739 : Aside0 (w34.heap[gb739]? = some (.cells #[.int .i64 0, .int .i64 0] 36 (0, 0))) := ⟨h3_⟩
       have GW739 : Aside0 (w.heap.size ≤ gb739) := ⟨h4_⟩
       have GE739 : Aside0 (w.heap.size ≤ gb739) := ⟨h5_⟩
       have NB726_739 : Aside0 (gb726 ≠ gb739) := ⟨h6_⟩
       have NB739_726 : Aside0 (gb739 ≠ gb726) := ⟨h7_⟩
       replace HB : Aside0 (Below w.heap.size w w34) := ⟨h8_⟩
       clear h0_ h1_ h2_ h3_ h4_ h5_ h6_ h7_ h8_
       have hHeld : w34.cell? (ad734.add ((x9_1).toNat * 2)) = some (.int .i64 ((rd_T36 t727 x9_1).f0)) ∧ w34.cell? ⟨(ad734.add ((x9_1).toNat * 2)).block, (ad734.add ((x9_1).toNat * 2)).off + 1, none⟩ = some (.int .i64 ((rd_T36 t727 x9_1).f1)) ∧ w34.cell? (ad735.add ((x9_1).toNat * 2)) = some (.int .i64 ((rd_T36 l1 x9_1).f0)) ∧ w34.cell? ⟨(ad735.add ((x9_1).toNat * 2)).block, (ad735.add ((x9_1).toNat * 2)).off + 1, none⟩ = some (.int .i64 ((rd_T36 l1 x9_1).f1)) := hS_
       refine norm_ (a' := ?_) ?_ ?_
       rotate_left
       ·simp only [putAll, Act.put, List.setIfInBounds_toArray, List.set_cons_zero, List.set_cons_succ]
        rfl
       refine one_ (i := 13) (N := none) (tl_ 15 16383) rfl rfl (one_of HT_.out (g0_)) (by decide) (fun K hK => ?_)
       have hs35 : w34.cell? ⟨gb739, 0, none⟩ = some (.int .i64 0) := (blk_cell BK739.out 0).trans rfl
       have hfs35 := blk_frozen BK739.out 0
       have hns35_0 := NB726_739.out
       have hms35_0 := NB739_726.out
       have hs36 : w34.cell? ⟨gb739, 1, none⟩ = some (.int .i64 0) := (blk_cell BK739.out 1).trans rfl
       have hfs36 := blk_frozen BK739.out 1
       have hns36_0 := NB726_739.out
       have hms36_0 := NB739_726.out
       refine skip_ (w1 := ?_) (by rfl) rfl ?_ ?_
       rotate_left
       ·go_simp
        rfl
       refine hK.out _ _ ⟨((cell_far (p := ⟨gb739, _, none⟩) (g19_) _).trans (((cell_far (p := ⟨gb739, _, none⟩) (g19_) _).trans (hHeld.1)))), ((cell_far (p := ⟨gb739, _, none⟩) (g19_) _).trans (((cell_far (p := ⟨gb739, _, none⟩) (g19_) _).trans (hHeld.2.1)))), ((cell_far (p := ⟨gb739, _, none⟩) (by first | exact Nat.ne_of_lt (Nat.lt_of_lt_of_le (by have := World.block_lt_of_cell? _ _ hw735_0; first | rwa [add_block] at this | exact this) GW739.out) | (rw [add_block]; exact Nat.ne_of_lt (Nat.lt_of_lt_of_le (by have := World.block_lt_of_cell? _ _ hw735_0; first | rwa [add_block] at this | exact this) GW739.out)) | (show (Addr.add _ _).block ≠ _; rw [add_block]; exact Nat.ne_of_lt (Nat.lt_of_lt_of_le (by have := World.block_lt_of_cell? _ _ hw735_0; first | rwa [add_block] at this | exact this) GW739.out)) | (dsimp only; exact Nat.ne_of_lt (Nat.lt_of_lt_of_le (by have := World.block_lt_of_cell? _ _ hw735_0; first | rwa [add_block] at this | exact this) GW739.out))) _).trans (((cell_far (p := ⟨gb739, _, none⟩) (by first | exact Nat.ne_of_lt (Nat.lt_of_lt_of_le (by have := World.block_lt_of_cell? _ _ hw735_0; first | rwa [add_block] at this | exact this) GW739.out) | (rw [add_block]; exact Nat.ne_of_lt (Nat.lt_of_lt_of_le (by have := World.block_lt_of_cell? _ _ hw735_0; first | rwa [add_block] at this | exact this) GW739.out)) | (show (Addr.add _ _).block ≠ _; rw [add_block]; exact Nat.ne_of_lt (Nat.lt_of_lt_of_le (by have := World.block_lt_of_cell? _ _ hw735_0; first | rwa [add_block] at this | exact this) GW739.out)) | (dsimp only; exact Nat.ne_of_lt (Nat.lt_of_lt_of_le (by have := World.block_lt_of_cell? _ _ hw735_0; first | rwa [add_block] at this | exact this) GW739.out))) _).trans (hHeld.2.2.1)))), ((cell_far (p := ⟨gb739, _, none⟩) (by first | exact Nat.ne_of_lt (Nat.lt_of_lt_of_le (by have := World.block_lt_of_cell? _ _ hw735_1; first | rwa [add_block] at this | exact this) GW739.out) | (rw [add_block]; exact Nat.ne_of_lt (Nat.lt_of_lt_of_le (by have := World.block_lt_of_cell? _ _ hw735_1; first | rwa [add_block] at this | exact this) GW739.out)) | (show (Addr.add _ _).block ≠ _; rw [add_block]; exact Nat.ne_of_lt (Nat.lt_of_lt_of_le (by have := World.block_lt_of_cell? _ _ hw735_1; first | rwa [add_block] at this | exact this) GW739.out)) | (dsimp only; exact Nat.ne_of_lt (Nat.lt_of_lt_of_le (by have := World.block_lt_of_cell? _ _ hw735_1; first | rwa [add_block] at this | exact this) GW739.out))) _).trans (((cell_far (p := ⟨gb739, _, none⟩) (by first | exact Nat.ne_of_lt (Nat.lt_of_lt_of_le (by have := World.block_lt_of_cell? _ _ hw735_1; first | rwa [add_block] at this | exact this) GW739.out) | (rw [add_block]; exact Nat.ne_of_lt (Nat.lt_of_lt_of_le (by have := World.block_lt_of_cell? _ _ hw735_1; first | rwa [add_block] at this | exact this) GW739.out)) | (show (Addr.add _ _).block ≠ _; rw [add_block]; exact Nat.ne_of_lt (Nat.lt_of_lt_of_le (by have := World.block_lt_of_cell? _ _ hw735_1; first | rwa [add_block] at this | exact this) GW739.out)) | (dsimp only; exact Nat.ne_of_lt (Nat.lt_of_lt_of_le (by have := World.block_lt_of_cell? _ _ hw735_1; first | rwa [add_block] at this | exact this) GW739.out))) _).trans (hHeld.2.2.2))))⟩ (fun hHeld => ?_)
       clear hK K
       refine pw_ 14 11 (tl_ 15 32767) rfl rfl ?_
       refine done_ (done_of HT_.out (g0_)) ?_
       try go_wp2_with (first | ((with_reducible refine gate_dst (N := 42) rfl ?_); refine Kd.R_lit k36 _ 36 ?hg (N := 42) ?hd (xs := ([] : List (S36))) (inner := []) (ok := fun _ => True) (okp := fun _ => True) ?hr ?hp (fun _ hk => hk) trivial (Below.refl _ _) (Nat.le_refl _) (by simp) ?_; (case hd => rfl); (case hg => rfl); (case hr => first | (go_simp; done) | (go_simp; rfl)); (case hp => exact (Reps.none _ _)); intro v744 w37 ho38 hb hg_ hnew_; clear hg_ hnew_; (first | rw [← Ny743.out] at ho38 | (simp only [Int.reduceToNat] at ho38; rw [← Ny743.out] at ho38)); have HO745 := Aside0.mk (Kd.R_lower (Kd.R_newB (Kd.R_new' (Kd.R_new' ho38 (Kd.R_lt (g175_))) (Kd.R_lt (by (with_reducible repeat (first | apply Kd.R_alloc | apply Kd.R_drewN | apply Kd.R_drew)); exact (Kd.R_mono (Kd.R_far (p := ⟨gb739, 1, none⟩) (Kd.R_far (p := ⟨gb739, 0, none⟩) (Kd.R_mono HO_8.out (fun k_ hk => (⟨hk, hk.2⟩ : _ ∧ k_ ≠ gb739))) (fun _ hk => hk.2) (.int .i64 t736)) (fun _ hk => hk.2) (.int .i64 t737)) (fun _ h_ => h_.1))))) (g := gb739) (o := .cells #[.int .i64 t736, .int .i64 t737] 36 (0, 0)) (g110_)) (below_size (spec_KeepsOf.calls_q0))); replace HO_6 := Aside0.mk (Kd.R_elder' (g175_) (Kd.R_base ho38) hb); replace HO_8 := Aside0.mk (Kd.R_elder' (by (with_reducible repeat (first | apply Kd.R_alloc | apply Kd.R_drewN | apply Kd.R_drew)); exact (Kd.R_mono (Kd.R_far (p := ⟨gb739, 1, none⟩) (Kd.R_far (p := ⟨gb739, 0, none⟩) (Kd.R_mono HO_8.out (fun k_ hk => (⟨hk, hk.2⟩ : _ ∧ k_ ≠ gb739))) (fun _ hk => hk.2) (.int .i64 t736)) (fun _ hk => hk.2) (.int .i64 t737)) (fun _ h_ => h_.1))) (Kd.R_base ho38) hb); replace BK726 := Aside0.mk (blk_below (g := gb726) (o := .cells #[.slice A0_0 l0_0.length c0_0, .slice A0_1 l0_1.length c0_1] 26 (0, 0)) (by (with_reducible repeat (first | refine blk_drewN ?_ _ | refine blk_drew ?_ | refine blk_alloc ?_ _)); refine blk_far ?_ NB726_739.out _; (with_reducible repeat (first | refine blk_drewN ?_ _ | refine blk_drew ?_ | refine blk_alloc ?_ _)); refine blk_far ?_ NB726_739.out _; (with_reducible repeat (first | refine blk_drewN ?_ _ | refine blk_drew ?_ | refine blk_alloc ?_ _)); exact BK726.out) hb); replace BK739 := Aside0.mk (blk_below (g := gb739) (o := .cells #[.int .i64 t736, .int .i64 t737] 36 (0, 0)) (g110_) hb); replace HB := Aside0.mk (below_step (spec_KeepsOf.calls_q0) hb); clear hb ho38))
       go_ret2
       exact ⟨_, g4_, by (with_reducible repeat (first | apply Kd.R_alloc | apply Kd.R_drewN | apply Kd.R_drew)); exact Kd.R_mono HO745.out (fun _ hk => trivial), spec_KeepsOf.calls_q0⟩
     ·replace c13 := Bool.eq_false_iff.mpr c13
      subst c13
      replace H := ifn_ H
      simp only [Option.some.injEq, Prod.mk.injEq] at H
      obtain ⟨rfl, rfl⟩ := H
      go_wp2
      go_ret2
      exact ⟨_, g4_, by (with_reducible repeat (first | apply Kd.R_alloc | apply Kd.R_drewN | apply Kd.R_drew)); exact Kd.R_mono HO_8.out (fun _ hk => trivial), spec_KeepsOf.calls_q0⟩
def impl_PlusOf.f (k : Nat) (a0_0 : Int) (a0_1 : Int) (a1_0 : Int) (a1_1 : Int) : Option (Int × Int × Bool) := (impl_isFrac.f k a0_0 a0_1).bind fun t749 => (if t749 = true then ((impl_isFrac.f k a1_0 a1_1).bind fun t750 => (if t750 = true then ((impl_plus.f k a0_0 a0_1 a1_0 a1_1).bind fun bt751 => (some (bt751.1, bt751.2.1, bt751.2.2))) else (some (0, 0, false)))) else (some (0, 0, false)))
theorem impl_PlusOf.mq {p : Prop} (h : p := by
 repeat' first
 | (with_reducible exact impl_isFrac.mono _ _ _)
 | (with_reducible exact impl_plus.mono _ _ _ _ _)
 | (with_reducible exact LeO.refl _)
 | (with_reducible exact LeO.none _)
 | (with_reducible refine LeO.ite ?_ ?_)
 | (with_reducible refine LeO.bind ?_ (fun _ => ?_))
 | exact impl_isFrac.mono _ _ _
 | exact impl_plus.mono _ _ _ _ _
 | exact LeO.none _
 | refine LeO.ite ?_ ?_
 | refine LeO.bind ?_ (fun _ => ?_)) : p := h
theorem impl_PlusOf.mono : ∀ a0 a1 a2 a3 k, LeO (impl_PlusOf.f k a0 a1 a2 a3) (impl_PlusOf.f (k + 1) a0 a1 a2 a3) := by
 intro a0 a1 a2 a3 k
 unfold impl_PlusOf.f
 exact impl_PlusOf.mq
theorem impl_PlusOf.calls_q0 {p : Prop} (h : p := by repeat (first | (with_reducible first | exact HB.out | apply below_alloc | apply pw_below_drewN | apply below_drew1 | refine below_set ?_ GE746.out | refine below_set ?_ GE747.out | refine below_set ?_ GE748.out) | exact HB.out)) : p := h
set_option maxHeartbeats 8000000 in
set_option maxRecDepth 100000 in
theorem impl_PlusOf.calls (k : Nat) (a0_0 : Int) (a0_1 : Int) (a1_0 : Int) (a1_1 : Int) (r1 : Int) (r2 : Int) (r3 : Bool) (w : World) (h : impl_PlusOf.f k a0_0 a0_1 a1_0 a1_1 = some (r1, r2, r3)) :
  Calls Try.prog 36 #[.agg #[.int .i64 a0_0, .int .i64 a0_1], .agg #[.int .i64 a1_0, .int .i64 a1_1]] w fun e w' => e = .returned (.tuple #[.agg #[.int .i64 r1, .int .i64 r2], .bool r3]) ∧ Below w.heap.size w w' := by
 have hu36 := Try.underlying36
 have HB := Aside0.mk (Below.refl w.heap.size w)
 have H : ((impl_isFrac.f k a0_0 a0_1).bind fun t749 => (if t749 = true then ((impl_isFrac.f k a1_0 a1_1).bind fun t750 => (if t750 = true then ((impl_plus.f k a0_0 a0_1 a1_0 a1_1).bind fun bt751 => (some (bt751.1, bt751.2.1, bt751.2.2))) else (some (0, 0, false)))) else (some (0, 0, false)))) = some (r1, r2, r3) := h
 clear h
 obtain ⟨t749, A3, H⟩ := bind_ H
 by_cases c4 : t749 = true
 ·subst c4
  replace H := ifp_ H
  obtain ⟨t750, A5, H⟩ := bind_ H
  by_cases c6 : t750 = true
  ·subst c6
   replace H := ifp_ H
   replace H := Option.bind_eq_some_iff.mp H
   obtain ⟨⟨t751, t752, t753⟩, A70, H⟩ := H
   replace H : (some (t751, t752, t753)) = some (r1, r2, r3) := H
   have A7 := Aside0.mk A70
   clear A70
   simp only [Option.some.injEq, Prod.mk.injEq] at H
   obtain ⟨rfl, rfl, rfl⟩ := H
   go_enter Try.func36, Try.ntmps36
   go_wp2_with (first | ((with_reducible refine gate_dst (N := 2) rfl ?_); refine bx_ (N := 2) #[.int .i64 a0_0, .int .i64 a0_1] 36 ?_; intro gb746 hg w8 hbox hb; have BK746 := Aside0.mk (hbox); have GW746 := Aside0.mk ((g17_ : w.heap.size ≤ gb746)); have GE746 := Aside0.mk ((g17_ : w.heap.size ≤ gb746)); replace HB := Aside0.mk (below_step (impl_PlusOf.calls_q0) hb); clear hb hbox hg) | ((with_reducible refine gate_dst (N := 3) rfl ?_); refine bx_ (N := 3) #[.int .i64 a1_0, .int .i64 a1_1] 36 ?_; intro gb747 hg w9 hbox hb; have BK747 := Aside0.mk (hbox); have GW747 := Aside0.mk ((g17_ : w.heap.size ≤ gb747)); have GE747 := Aside0.mk ((g17_ : w.heap.size ≤ gb747)); replace HB := Aside0.mk (below_step (impl_PlusOf.calls_q0) hb); have NB746_747 := Aside0.mk ((g78_ : gb746 ≠ gb747)); have NB747_746 := Aside0.mk ((g79_ : gb747 ≠ gb746)); replace BK746 := bb_ BK746 hb; clear hb hbox hg) | ((with_reducible refine gate_dst (N := 4) rfl ?_); refine bx_ (N := 4) #[.int .i64 0, .int .i64 0] 36 ?_; intro gb748 hg w10 hbox hb; have BK748 := Aside0.mk (hbox); have GW748 := Aside0.mk ((g17_ : w.heap.size ≤ gb748)); have GE748 := Aside0.mk ((g17_ : w.heap.size ≤ gb748)); replace HB := Aside0.mk (below_step (impl_PlusOf.calls_q0) hb); have NB746_748 := Aside0.mk ((g78_ : gb746 ≠ gb748)); have NB748_746 := Aside0.mk ((g79_ : gb748 ≠ gb746)); replace BK746 := bb_ BK746 hb; have NB747_748 := Aside0.mk ((g176_ : gb747 ≠ gb748)); have NB748_747 := Aside0.mk ((g177_ : gb748 ≠ gb747)); replace BK747 := bb_ BK747 hb; clear hb hbox hg; have hnb11 := NB746_747.out; have hnc11 := NB747_746.out; have hnb12 := NB746_748.out; have hnc12 := NB748_746.out; obtain ⟨hcz13_0, hcz13_1, hfz13_0, hfz13_1⟩ := blk2_ BK746) | ((with_reducible refine gate_callee (f := 77) rfl ?_); refine goesL_ (some 7) rfl rfl Try.func77 k_ rfl #[.agg #[.int .i64 a0_0, .int .i64 a0_1]] rfl (g2_) ?_; (with_reducible refine (impl_isFrac.calls k a0_0 a0_1 true _ A3.out).mono ?_); rintro e w14 ⟨rfl, hb⟩; refine ⟨_, rfl, ?_⟩; replace BK746 := bb_ BK746 hb; replace BK747 := bb_ BK747 hb; replace BK748 := bb_ BK748 hb; replace HB := Aside0.mk (below_step (impl_PlusOf.calls_q0) hb); (try clear hb); (try clear hk hi); have hnb15 := NB747_748.out; have hnc15 := NB748_747.out; obtain ⟨hcz16_0, hcz16_1, hfz16_0, hfz16_1⟩ := blk2_ BK747) | (go_at_call 77; (with_reducible refine (impl_isFrac.calls k a1_0 a1_1 true _ A5.out).mono ?_); rintro e w17 ⟨rfl, hb⟩; replace BK746 := bb_ BK746 hb; replace BK747 := bb_ BK747 hb; replace BK748 := bb_ BK748 hb; replace HB := Aside0.mk (below_step (impl_PlusOf.calls_q0) hb); (try clear hb); (try clear hk hi); obtain ⟨hcz18_0, hcz18_1, hfz18_0, hfz18_1⟩ := blk2_ BK746; obtain ⟨hcz19_0, hcz19_1, hfz19_0, hfz19_1⟩ := blk2_ BK747) | ((with_reducible refine gate_callee (f := 81) rfl ?_); refine goesL_ (some 17) rfl rfl Try.func81 k_ rfl #[.agg #[.int .i64 a0_0, .int .i64 a0_1], .agg #[.int .i64 a1_0, .int .i64 a1_1]] rfl (g2_) ?_; (with_reducible refine (impl_plus.calls k a0_0 a0_1 a1_0 a1_1 t751 t752 t753 _ A7.out).mono ?_); rintro e w20 ⟨rfl, hb⟩; refine ⟨_, rfl, ?_⟩; replace BK746 := bb_ BK746 hb; replace BK747 := bb_ BK747 hb; replace BK748 := bb_ BK748 hb; replace HB := Aside0.mk (below_step (impl_PlusOf.calls_q0) hb); (try clear hb); (try clear hk hi); obtain ⟨hcz21_0, hcz21_1, hfz21_0, hfz21_1⟩ := blk2_ BK748))
   refine bodyPost_ret (results_ct rfl _ _ gb748 36 #[.int .i64 t751, .int .i64 t752] (0, 0) _ rfl (by (with_reducible repeat (first | refine blk_drewN ?_ _ | refine blk_drew ?_ | refine blk_alloc ?_ _)); refine blk_put (cs := #[.int .i64 t751, .int .i64 0]) ?_ 1 _ rfl; (with_reducible repeat (first | refine blk_drewN ?_ _ | refine blk_drew ?_ | refine blk_alloc ?_ _)); refine blk_put (cs := #[.int .i64 0, .int .i64 0]) ?_ 0 _ rfl; (with_reducible repeat (first | refine blk_drewN ?_ _ | refine blk_drew ?_ | refine blk_alloc ?_ _)); exact BK748.out) Try.underlying36 rfl (g0_)) rfl ?_
   exact ⟨g4_, impl_PlusOf.calls_q0⟩
  ·replace c6 := Bool.eq_false_iff.mpr c6
   subst c6
   replace H := ifn_ H
   simp only [Option.some.injEq, Prod.mk.injEq] at H
   obtain ⟨rfl, rfl, rfl⟩ := H
   go_enter Try.func36, Try.ntmps36
   go_wp2_with (first | ((with_reducible refine gate_dst (N := 2) rfl ?_); refine bx_ (N := 2) #[.int .i64 a0_0, .int .i64 a0_1] 36 ?_; intro gb746 hg w22 hbox hb; have BK746 := Aside0.mk (hbox); have GW746 := Aside0.mk ((g17_ : w.heap.size ≤ gb746)); have GE746 := Aside0.mk ((g17_ : w.heap.size ≤ gb746)); replace HB := Aside0.mk (below_step (impl_PlusOf.calls_q0) hb); clear hb hbox hg) | ((with_reducible refine gate_dst (N := 3) rfl ?_); refine bx_ (N := 3) #[.int .i64 a1_0, .int .i64 a1_1] 36 ?_; intro gb747 hg w23 hbox hb; have BK747 := Aside0.mk (hbox); have GW747 := Aside0.mk ((g17_ : w.heap.size ≤ gb747)); have GE747 := Aside0.mk ((g17_ : w.heap.size ≤ gb747)); replace HB := Aside0.mk (below_step (impl_PlusOf.calls_q0) hb); have NB746_747 := Aside0.mk ((g78_ : gb746 ≠ gb747)); have NB747_746 := Aside0.mk ((g79_ : gb747 ≠ gb746)); replace BK746 := bb_ BK746 hb; clear hb hbox hg) | ((with_reducible refine gate_dst (N := 4) rfl ?_); refine bx_ (N := 4) #[.int .i64 0, .int .i64 0] 36 ?_; intro gb748 hg w24 hbox hb; have BK748 := Aside0.mk (hbox); have GW748 := Aside0.mk ((g17_ : w.heap.size ≤ gb748)); have GE748 := Aside0.mk ((g17_ : w.heap.size ≤ gb748)); replace HB := Aside0.mk (below_step (impl_PlusOf.calls_q0) hb); have NB746_748 := Aside0.mk ((g78_ : gb746 ≠ gb748)); have NB748_746 := Aside0.mk ((g79_ : gb748 ≠ gb746)); replace BK746 := bb_ BK746 hb; have NB747_748 := Aside0.mk ((g176_ : gb747 ≠ gb748)); have NB748_747 := Aside0.mk ((g177_ : gb748 ≠ gb747)); replace BK747 := bb_ BK747 hb; clear hb hbox hg; have hnb25 := NB746_747.out; have hnc25 := NB747_746.out; have hnb26 := NB746_748.out; have hnc26 := NB748_746.out; obtain ⟨hcz27_0, hcz27_1, hfz27_0, hfz27_1⟩ := blk2_ BK746) | ((with_reducible refine gate_callee (f := 77) rfl ?_); refine goesL_ (some 7) rfl rfl Try.func77 k_ rfl #[.agg #[.int .i64 a0_0, .int .i64 a0_1]] rfl (g2_) ?_; (with_reducible refine (impl_isFrac.calls k a0_0 a0_1 true _ A3.out).mono ?_); rintro e w28 ⟨rfl, hb⟩; refine ⟨_, rfl, ?_⟩; replace BK746 := bb_ BK746 hb; replace BK747 := bb_ BK747 hb; replace BK748 := bb_ BK748 hb; replace HB := Aside0.mk (below_step (impl_PlusOf.calls_q0) hb); (try clear hb); (try clear hk hi); have hnb29 := NB747_748.out; have hnc29 := NB748_747.out; obtain ⟨hcz30_0, hcz30_1, hfz30_0, hfz30_1⟩ := blk2_ BK747) | (go_at_call 77; (with_reducible refine (impl_isFrac.calls k a1_0 a1_1 false _ A5.out).mono ?_); rintro e w31 ⟨rfl, hb⟩; replace BK746 := bb_ BK746 hb; replace BK747 := bb_ BK747 hb; replace BK748 := bb_ BK748 hb; replace HB := Aside0.mk (below_step (impl_PlusOf.calls_q0) hb); (try clear hb); (try clear hk hi); obtain ⟨hcz32_0, hcz32_1, hfz32_0, hfz32_1⟩ := blk2_ BK748))
   refine bodyPost_ret (results_ct rfl _ _ gb748 36 #[.int .i64 0, .int .i64 0] (0, 0) _ rfl (by (with_reducible repeat (first | refine blk_drewN ?_ _ | refine blk_drew ?_ | refine blk_alloc ?_ _)); refine blk_put (cs := #[.int .i64 0, .int .i64 0]) ?_ 1 _ rfl; (with_reducible repeat (first | refine blk_drewN ?_ _ | refine blk_drew ?_ | refine blk_alloc ?_ _)); refine blk_put (cs := #[.int .i64 0, .int .i64 0]) ?_ 0 _ rfl; (with_reducible repeat (first | refine blk_drewN ?_ _ | refine blk_drew ?_ | refine blk_alloc ?_ _)); exact BK748.out) Try.underlying36 rfl (g0_)) rfl ?_
   exact ⟨g4_, impl_PlusOf.calls_q0⟩
 ·replace c4 := Bool.eq_false_iff.mpr c4
  subst c4
  replace H := ifn_ H
  simp only [Option.some.injEq, Prod.mk.injEq] at H
  obtain ⟨rfl, rfl, rfl⟩ := H
  go_enter Try.func36, Try.ntmps36
  go_wp2_with (first | ((with_reducible refine gate_dst (N := 2) rfl ?_); refine bx_ (N := 2) #[.int .i64 a0_0, .int .i64 a0_1] 36 ?_; intro gb746 hg w33 hbox hb; have BK746 := Aside0.mk (hbox); have GW746 := Aside0.mk ((g17_ : w.heap.size ≤ gb746)); have GE746 := Aside0.mk ((g17_ : w.heap.size ≤ gb746)); replace HB := Aside0.mk (below_step (impl_PlusOf.calls_q0) hb); clear hb hbox hg) | ((with_reducible refine gate_dst (N := 3) rfl ?_); refine bx_ (N := 3) #[.int .i64 a1_0, .int .i64 a1_1] 36 ?_; intro gb747 hg w34 hbox hb; have BK747 := Aside0.mk (hbox); have GW747 := Aside0.mk ((g17_ : w.heap.size ≤ gb747)); have GE747 := Aside0.mk ((g17_ : w.heap.size ≤ gb747)); replace HB := Aside0.mk (below_step (impl_PlusOf.calls_q0) hb); have NB746_747 := Aside0.mk ((g78_ : gb746 ≠ gb747)); have NB747_746 := Aside0.mk ((g79_ : gb747 ≠ gb746)); replace BK746 := bb_ BK746 hb; clear hb hbox hg) | ((with_reducible refine gate_dst (N := 4) rfl ?_); refine bx_ (N := 4) #[.int .i64 0, .int .i64 0] 36 ?_; intro gb748 hg w35 hbox hb; have BK748 := Aside0.mk (hbox); have GW748 := Aside0.mk ((g17_ : w.heap.size ≤ gb748)); have GE748 := Aside0.mk ((g17_ : w.heap.size ≤ gb748)); replace HB := Aside0.mk (below_step (impl_PlusOf.calls_q0) hb); have NB746_748 := Aside0.mk ((g78_ : gb746 ≠ gb748)); have NB748_746 := Aside0.mk ((g79_ : gb748 ≠ gb746)); replace BK746 := bb_ BK746 hb; have NB747_748 := Aside0.mk ((g176_ : gb747 ≠ gb748)); have NB748_747 := Aside0.mk ((g177_ : gb748 ≠ gb747)); replace BK747 := bb_ BK747 hb; clear hb hbox hg; have hnb36 := NB746_747.out; have hnc36 := NB747_746.out; have hnb37 := NB746_748.out; have hnc37 := NB748_746.out; obtain ⟨hcz38_0, hcz38_1, hfz38_0, hfz38_1⟩ := blk2_ BK746) | ((with_reducible refine gate_callee (f := 77) rfl ?_); refine goesL_ (some 7) rfl rfl Try.func77 k_ rfl #[.agg #[.int .i64 a0_0, .int .i64 a0_1]] rfl (g2_) ?_; (with_reducible refine (impl_isFrac.calls k a0_0 a0_1 false _ A3.out).mono ?_); rintro e w39 ⟨rfl, hb⟩; refine ⟨_, rfl, ?_⟩; replace BK746 := bb_ BK746 hb; replace BK747 := bb_ BK747 hb; replace BK748 := bb_ BK748 hb; replace HB := Aside0.mk (below_step (impl_PlusOf.calls_q0) hb); (try clear hb); (try clear hk hi); have hnb40 := NB748_747.out; have hnc40 := NB747_748.out; obtain ⟨hcz41_0, hcz41_1, hfz41_0, hfz41_1⟩ := blk2_ BK748))
  refine bodyPost_ret (results_ct rfl _ _ gb748 36 #[.int .i64 0, .int .i64 0] (0, 0) _ rfl (by (with_reducible repeat (first | refine blk_drewN ?_ _ | refine blk_drew ?_ | refine blk_alloc ?_ _)); refine blk_put (cs := #[.int .i64 0, .int .i64 0]) ?_ 1 _ rfl; (with_reducible repeat (first | refine blk_drewN ?_ _ | refine blk_drew ?_ | refine blk_alloc ?_ _)); refine blk_put (cs := #[.int .i64 0, .int .i64 0]) ?_ 0 _ rfl; (with_reducible repeat (first | refine blk_drewN ?_ _ | refine blk_drew ?_ | refine blk_alloc ?_ _)); exact BK748.out) Try.underlying36 rfl (g0_)) rfl ?_
  exact ⟨g4_, impl_PlusOf.calls_q0⟩
def laws_sumOf.l0 : Nat → List Int → Int → Int → Option (Int)
 | 0, _, _, _ => none
 | k + 1, x0, x3, x4 => if x4 < (x0.length : Int) then (if 0 ≤ x4 then (laws_sumOf.l0 k x0 (wrap64 (x3 + (rd x0 x4))) (wrap64 (x4 + 1))) else (none)) else (some x3)
def laws_sumOf.f (k : Nat) (l0 : List Int) : Option (Int) := laws_sumOf.l0 k l0 0 0
theorem laws_sumOf.mq {p : Prop} (h : p := by
 repeat' first
 | (with_reducible exact ih0 _ _ _)
 | (with_reducible exact LeO.refl _)
 | (with_reducible exact LeO.none _)
 | (with_reducible refine LeO.ite ?_ ?_)
 | (with_reducible refine LeO.bind ?_ (fun _ => ?_))
 | exact ih0 _ _ _
 | exact LeO.none _
 | refine LeO.ite ?_ ?_
 | refine LeO.bind ?_ (fun _ => ?_)) : p := h
theorem laws_sumOf.mono_l : ∀ k, (∀ y0 y1 y2, LeO (laws_sumOf.l0 k y0 y1 y2) (laws_sumOf.l0 (k + 1) y0 y1 y2))
 | 0 => fun _ _ _ r h => by simp [laws_sumOf.l0] at h
 | k + 1 => by
  have ih0 := laws_sumOf.mono_l k
  ·intro y0 y1 y2
   unfold laws_sumOf.l0
   exact laws_sumOf.mq
theorem laws_sumOf.mono : ∀ a0 k, LeO (laws_sumOf.f k a0) (laws_sumOf.f (k + 1) a0) := by
 intro a0 k
 have ih0 := laws_sumOf.mono_l k
 unfold laws_sumOf.f
 exact laws_sumOf.mq
set_option maxHeartbeats 8000000 in
set_option maxRecDepth 100000 in
theorem laws_sumOf.calls (k : Nat) (A0 : Option Addr) (c0 : Nat) (l0 : List Int) (r : Int) (w : World) (hr0 : Kd.C (Kd.int .i64) w A0 l0.length l0) (hc0 : l0.length ≤ c0) (h : laws_sumOf.f k l0 = some r) :
  Calls Try.prog 37 #[.slice A0 l0.length c0] w fun e w' => e = .returned (.int .i64 r) ∧ Drawn0 w w' := by
 have HR0 := Aside0.mk hr0
 have HC0 := Aside0.mk hc0
 clear hr0 hc0
 have H : (laws_sumOf.l0 k l0 0 0) = some r := h
 clear h
 have H' := Aside0.mk H
 clear H
 go_enter Try.func37, Try.ntmps37
 go_wp2
 go_loopg [3, 4] k (fun kq v3 v4 w' => ∃ (x3_1 : Int) (x4_1 : Int), v3 = .int .i64 x3_1 ∧ v4 = .int .i64 x4_1 ∧ Aside0 (laws_sumOf.l0 kq l0 x3_1 x4_1 = some r) ∧ Aside0 (kq ≤ k) ∧ Drawn0 w w')
 case atStart => exact ⟨(0), (0), (g3_), (g3_), H', ⟨Nat.le_refl _⟩, g5_⟩
 case round =>
  clear H'
  obtain ⟨x3_1, x4_1, rfl, rfl, HA, HK1, ⟨m1, rfl⟩⟩ := hrel
  cases gk with
  | zero => exact absurd HA.out (by simp [laws_sumOf.l0])
  | succ k1 =>
   have H := HA.out
   clear HA
   simp only [laws_sumOf.l0] at H
   by_cases c2 : x4_1 < (l0.length : Int)
   ·rw [if_pos c2] at H
    have c2b0 := decide_eq_true c2
    clear c2
    obtain ⟨c3, H⟩ := pos_ H
    have c3b0 := decide_eq_true c3
    clear c3
    have H' := Aside0.mk H
    clear H
    have p754 : 0 ≤ (x4_1 : Int) := of_decide_eq_true (g1_)
    have q754 : x4_1 < (l0.length : Int) := of_decide_eq_true (g1_)
    obtain ⟨ad754, e754, hx754_0⟩ := Kd.at_int HR0.out x4_1 p754 q754
    cases e754
    replace p754 := eq_true p754
    replace q754 := eq_true q754
    go_wp2
    go_roundg k1
    case measure => have := HK1.out; omega
    case rel => exact ⟨(wrap64 (x3_1 + (rd l0 x4_1))), (wrap64 (x4_1 + 1)), (g3_), (g3_), H', ⟨g9_⟩, g5_⟩
   ·rw [if_neg c2] at H
    have c2b0 := decide_eq_false c2
    clear c2
    obtain rfl := Option.some.inj H
    go_wp2
    go_ret
    exact ⟨g3_, g5_⟩
attribute [local go_sem high] eqA36
mutual
def laws_FnKeepsOf.j0 : Nat → List (S36) → Bool → Bool → List Int → List (List Int) → Option (Bool)
 | 0, _, _, _, _, _ => none
 | k + 1, x5, x6, x40, x765000, x765001 => if x40 = true then (some false) else (if x6 = true then (laws_FnKeepsOf.l0 k x5 true 0 x765000 x765001 0 1) else (if (x5.length : Int) = 0 then ((laws_alive.f k).bind fun t774 => (some t774)) else (some false)))
def laws_FnKeepsOf.l0 : Nat → List (S36) → Bool → Int → List Int → List (List Int) → Int → Int → Option (Bool)
 | 0, _, _, _, _, _, _, _ => none
 | k + 1, x5, x10, x11, x765000, x765001, x776000, x776001 => if x11 < (x5.length : Int) then (if x10 = true then (if 0 ≤ x11 then ((impl_PlusOf.f k x776000 x776001 ((rd_T36 x5 x11).f0) ((rd_T36 x5 x11).f1)).bind fun bt777 => (laws_FnKeepsOf.l0 k x5 bt777.2.2 (wrap64 (x11 + 1)) x765000 x765001 bt777.1 bt777.2.1)) else (none)) else (if (x5.length : Int) = (x765000.length : Int) then (some true) else (some false))) else (if (x5.length : Int) = (x765000.length : Int) then (if x10 = true then ((laws_sumOf.f k x765000).bind fun t780 => (some (x776000 == t780 && (x776001 == 1)))) else (some true)) else (some false))
end
def laws_FnKeepsOf.f (k : Nat) (l0 : List Int) : Option (Bool) := if (l0.length : Int) > 1048576 then (some true) else ((spec_DrawKeepsOf.f k l0).bind fun bt755 => ((impl_KeepsOf.f k bt755.1 bt755.2.1 bt755.2.2).bind fun bt765 => ((spec_KeepsOf.f k bt755.1 bt755.2.1 bt755.2.2).bind fun bt769 => ((laws_samePays.f k bt765.1 bt769.1).bind fun t773 => (if t773 = true then (laws_FnKeepsOf.j0 k bt765.1 bt765.2 (bt765.2 != bt769.2) bt755.1 bt755.2.1) else (laws_FnKeepsOf.j0 k bt765.1 bt765.2 true bt755.1 bt755.2.1))))))
theorem laws_FnKeepsOf.mq {p : Prop} (h : p := by
 repeat' first
 | (with_reducible exact ih0 _ _ _ _ _)
 | (with_reducible exact ih1 _ _ _ _ _ _ _)
 | (with_reducible exact impl_KeepsOf.mono _ _ _ _)
 | (with_reducible exact impl_PlusOf.mono _ _ _ _ _)
 | (with_reducible exact laws_alive.mono _)
 | (with_reducible exact laws_samePays.mono _ _ _)
 | (with_reducible exact laws_sumOf.mono _ _)
 | (with_reducible exact spec_DrawKeepsOf.mono _ _)
 | (with_reducible exact spec_KeepsOf.mono _ _ _ _)
 | (with_reducible exact LeO.refl _)
 | (with_reducible exact LeO.none _)
 | (with_reducible refine LeO.ite ?_ ?_)
 | (with_reducible refine LeO.bind ?_ (fun _ => ?_))
 | exact ih0 _ _ _ _ _
 | exact ih1 _ _ _ _ _ _ _
 | exact impl_KeepsOf.mono _ _ _ _
 | exact impl_PlusOf.mono _ _ _ _ _
 | exact laws_alive.mono _
 | exact laws_samePays.mono _ _ _
 | exact laws_sumOf.mono _ _
 | exact spec_DrawKeepsOf.mono _ _
 | exact spec_KeepsOf.mono _ _ _ _
 | exact LeO.none _
 | refine LeO.ite ?_ ?_
 | refine LeO.bind ?_ (fun _ => ?_)) : p := h
theorem laws_FnKeepsOf.mono_l : ∀ k, (∀ y0 y1 y2 y3 y4, LeO (laws_FnKeepsOf.j0 k y0 y1 y2 y3 y4) (laws_FnKeepsOf.j0 (k + 1) y0 y1 y2 y3 y4)) ∧ (∀ y0 y1 y2 y3 y4 y5 y6, LeO (laws_FnKeepsOf.l0 k y0 y1 y2 y3 y4 y5 y6) (laws_FnKeepsOf.l0 (k + 1) y0 y1 y2 y3 y4 y5 y6))
 | 0 => ⟨fun _ _ _ _ _ r h => by simp [laws_FnKeepsOf.j0] at h, fun _ _ _ _ _ _ _ r h => by simp [laws_FnKeepsOf.l0] at h⟩
 | k + 1 => by
  obtain ⟨ih0, ih1⟩ := laws_FnKeepsOf.mono_l k
  refine ⟨?_, ?_⟩
  ·intro y0 y1 y2 y3 y4
   unfold laws_FnKeepsOf.j0
   exact laws_FnKeepsOf.mq
  ·intro y0 y1 y2 y3 y4 y5 y6
   unfold laws_FnKeepsOf.l0
   exact laws_FnKeepsOf.mq
theorem laws_FnKeepsOf.mono : ∀ a0 k, LeO (laws_FnKeepsOf.f k a0) (laws_FnKeepsOf.f (k + 1) a0) := by
 intro a0 k
 obtain ⟨ih0, ih1⟩ := laws_FnKeepsOf.mono_l k
 unfold laws_FnKeepsOf.f
 exact laws_FnKeepsOf.mq
def laws_FnKeepsOf.T15 : Bool × List (List Nat × List Nat) := (true, [([], []), ([], []), ([], []), ([1, 2], [1, 2]), ([3], [3]), ([0, 4], [0, 4]), ([5], [5]), ([6], [6]), ([6], [6]), ([7, 5, 0, 1, 2, 3, 4, 5, 6, 7], [7]), ([8, 9, 0, 1, 2, 3, 4, 5, 6, 7, 8, 9], [8])])
def laws_FnKeepsOf.B15 : List Nat := [0, 0, 0, 6, 14, 31, 63, 127, 127, 255, 1023]
theorem laws_FnKeepsOf.tab15 : rtab .any (opsOf Try.f7 15) = laws_FnKeepsOf.T15 := by kernel_rfl
theorem laws_FnKeepsOf.bits15 : waitsOk laws_FnKeepsOf.T15.2 laws_FnKeepsOf.B15 = true := by kernel_rfl
def laws_FnKeepsOf.T16 : Bool × List (List Nat × List Nat) := (true, [([], []), ([0], [0]), ([], []), ([2], [2]), ([3], [3]), ([1, 4], [1, 4]), ([5], [5]), ([6], [6]), ([7, 6], [6, 7]), ([8, 6, 6], [6, 8]), ([9], [9]), ([9], [9]), ([11, 9], [9, 11]), ([12, 9, 9], [9, 12]), ([13, 9], [9, 13]), ([10, 14, 9], [9, 10, 14]), ([9, 15, 6], [6, 9, 15]), ([6, 16], [6, 16]), ([17, 13, 0, 1, 2, 3, 4, 5, 6, 7, 8, 9, 10, 11, 12, 13, 14, 15, 16, 17], [17])])
def laws_FnKeepsOf.B16 : List Nat := [0, 1, 0, 4, 12, 31, 63, 127, 255, 511, 1023, 1023, 3071, 7167, 15359, 32767, 65535, 131071, 262143]
theorem laws_FnKeepsOf.tab16 : rtab .any (opsOf Try.f7 16) = laws_FnKeepsOf.T16 := by kernel_rfl
theorem laws_FnKeepsOf.bits16 : waitsOk laws_FnKeepsOf.T16.2 laws_FnKeepsOf.B16 = true := by kernel_rfl
theorem laws_FnKeepsOf.calls_q0 {p : Prop} (h : p := by repeat (first | (with_reducible first | exact HB.out | apply below_alloc | apply pw_below_drewN | apply below_drew1 | refine below_set ?_ GE764.out | refine below_set ?_ GE775.out) | exact HB.out)) : p := h
set_option maxHeartbeats 8000000 in
set_option maxRecDepth 100000 in
theorem laws_FnKeepsOf.calls (k : Nat) (A0 : Option Addr) (c0 : Nat) (l0 : List Int) (r : Bool) (w : World) (hr0 : Kd.C (Kd.int .u8) w A0 l0.length l0) (hc0 : l0.length ≤ c0) (h : laws_FnKeepsOf.f k l0 = some r) :
  Calls Try.prog 7 #[.slice A0 l0.length c0] w fun e w' => e = .returned (.bool r) ∧ Below w.heap.size w w' := by
 have hu26 := Try.underlying26
 have hu36 := Try.underlying36
 have HR0 := Aside0.mk hr0
 have HC0 := Aside0.mk hc0
 clear hr0 hc0
 have HB := Aside0.mk (Below.refl w.heap.size w)
 have H : (if (l0.length : Int) > 1048576 then (some true) else ((spec_DrawKeepsOf.f k l0).bind fun bt755 => ((impl_KeepsOf.f k bt755.1 bt755.2.1 bt755.2.2).bind fun bt765 => ((spec_KeepsOf.f k bt755.1 bt755.2.1 bt755.2.2).bind fun bt769 => ((laws_samePays.f k bt765.1 bt769.1).bind fun t773 => (if t773 = true then (laws_FnKeepsOf.j0 k bt765.1 bt765.2 (bt765.2 != bt769.2) bt755.1 bt755.2.1) else (laws_FnKeepsOf.j0 k bt765.1 bt765.2 true bt755.1 bt755.2.1))))))) = some r := h
 clear h
 by_cases c2 : (l0.length : Int) > 1048576
 ·rw [if_pos c2] at H
  have c2b0 := decide_eq_true c2
  have c2b1 : decide (1048576 < l0.length) = true := decide_eq_true (by omega)
  clear c2
  obtain rfl := Option.some.inj H
  go_enter Try.func7, Try.ntmps7
  go_wp2
  go_ret
  exact ⟨g4_, laws_FnKeepsOf.calls_q0⟩
 ·rw [if_neg c2] at H
  have c2b0 := decide_eq_false c2
  have c2b1 : decide (1048576 < l0.length) = false := decide_eq_false (by omega)
  clear c2
  replace H := Option.bind_eq_some_iff.mp H
  obtain ⟨⟨t755, t758, t761⟩, A30, H⟩ := H
  replace H : ((impl_KeepsOf.f k t755 t758 t761).bind fun bt765 => ((spec_KeepsOf.f k t755 t758 t761).bind fun bt769 => ((laws_samePays.f k bt765.1 bt769.1).bind fun t773 => (if t773 = true then (laws_FnKeepsOf.j0 k bt765.1 bt765.2 (bt765.2 != bt769.2) t755 t758) else (laws_FnKeepsOf.j0 k bt765.1 bt765.2 true t755 t758))))) = some r := H
  have A3 := Aside0.mk A30
  clear A30
  replace H := Option.bind_eq_some_iff.mp H
  obtain ⟨⟨t765, t768⟩, A40, H⟩ := H
  replace H : ((spec_KeepsOf.f k t755 t758 t761).bind fun bt769 => ((laws_samePays.f k t765 bt769.1).bind fun t773 => (if t773 = true then (laws_FnKeepsOf.j0 k t765 t768 (t768 != bt769.2) t755 t758) else (laws_FnKeepsOf.j0 k t765 t768 true t755 t758)))) = some r := H
  have A4 := Aside0.mk A40
  clear A40
  replace H := Option.bind_eq_some_iff.mp H
  obtain ⟨⟨t769, t772⟩, A50, H⟩ := H
  replace H : ((laws_samePays.f k t765 t769).bind fun t773 => (if t773 = true then (laws_FnKeepsOf.j0 k t765 t768 (t768 != t772) t755 t758) else (laws_FnKeepsOf.j0 k t765 t768 true t755 t758))) = some r := H
  have A5 := Aside0.mk A50
  clear A50
  have HC6 := Aside0.mk H
  clear H
  go_enter Try.func7, Try.ntmps7
  go_upto_region 6 with (first | ((with_reducible refine gate_callee (f := 33) rfl ?_); refine goesL_ (some 17) rfl rfl Try.func33 k_ rfl #[.slice A0 l0.length c0] rfl (g2_) ?_; (with_reducible refine (spec_DrawKeepsOf.calls k _ _ l0 t755 t758 t761 _ ?side1 ?side2 A3.out).mono ?_); (case side1 => repeat (first | exact HR0.out | (with_reducible refine Kd.C_alloc ?_ _) | (with_reducible refine Kd.C_drewN ?_ _) | (with_reducible refine Kd.C_drew ?_))); (case side2 => exact HC0.out); rintro e w7 ⟨v756, v759, v762, rfl, ho0, ho1, ho2, hb⟩; refine ⟨_, rfl, ?_⟩; have HO757 := Aside0.mk (Kd.R_lower (Kd.R_mono (ok' := fun k_ => True) ho0 (fun _ hk_ => trivial)) (below_size (laws_FnKeepsOf.calls_q0))); have HO760 := Aside0.mk (Kd.V_lower (Kd.V_mono (ok' := fun k_ => some k_ ≠ (v756 : Value).ownBlock ∧ some k_ ≠ (v762 : Value).ownBlock) ho1 (fun k_ hk_ => ⟨hk_.2.1, hk_.2.2⟩)) (below_size (laws_FnKeepsOf.calls_q0))); have HO763 := Aside0.mk (Kd.R_lower (Kd.R_mono (ok' := fun k_ => True) ho2 (fun _ hk_ => trivial)) (below_size (laws_FnKeepsOf.calls_q0))); replace HB := Aside0.mk (below_step (laws_FnKeepsOf.calls_q0) hb); (try clear hb); (try clear hk hi); (try clear ho0); (try clear ho1); (try clear ho2)) | ((with_reducible refine gate_dst (N := 3) rfl ?_); refine bx_ (N := 3) #[.slice none 0 0, .slice none 0 0] 26 ?_; intro gb764 hg w8 hbox hb; replace HO757 := Aside0.mk (Kd.R_below (uf1_ HO757) hb); replace HO760 := Aside0.mk (Kd.V_below (Kd.V_elderB (uf5_ HO760) gb764 (Nat.le_of_eq hg.symm)) hb); replace HO763 := Aside0.mk (Kd.R_below (uf1_ HO763) hb); have BK764 := Aside0.mk (hbox); have GW764 := Aside0.mk ((g111_ : w.heap.size ≤ gb764)); have GE764 := Aside0.mk ((g111_ : w.heap.size ≤ gb764)); replace HB := Aside0.mk (below_step (laws_FnKeepsOf.calls_q0) hb); clear hb hbox hg; obtain ⟨Ao9, co9, eo9⟩ := Kd.R_slice HO757.out; subst eo9; obtain ⟨hcz10_0, hcz10_1, hfz10_0, hfz10_1⟩ := blk2_ BK764; obtain ⟨Ao11, co11, eo11⟩ := Kd.V_slice HO760.out; subst eo11; obtain ⟨Ao12, co12, eo12⟩ := Kd.R_slice HO763.out; subst eo12) | ((with_reducible refine gate_callee (f := 34) rfl ?_); refine goesL_ (some 23) rfl rfl Try.func34 k_ rfl #[.agg #[.slice Ao9 t755.length co9, .slice Ao11 t758.length co11], .slice Ao12 t761.length co12] rfl (g2_) ?_; (with_reducible refine (impl_KeepsOf.calls k _ _ t755 _ _ t758 _ _ t761 t765 t768 _ ?side1 ?side2 ?side3 ?side4 ?side5 ?side6 A4.out).mono ?_); (case side1 => refine (Kd.R_reads' (e := 3) (base := w.heap.size) (ok := fun k_ => True) (n := t755.length) (c := co9) ?_).2.2; exact (by (with_reducible repeat (first | apply Kd.R_alloc | apply Kd.R_drewN | apply Kd.R_drew)); exact (Kd.R_mono (Kd.R_far (p := ⟨gb764, 1, none⟩) (Kd.R_far (p := ⟨gb764, 0, none⟩) (Kd.R_types HO757.out BK764.out (by decide)) (fun _ hk => hk.2) (.slice Ao9 t755.length co9)) (fun _ hk => hk.2) (.slice Ao11 t758.length co11)) (fun _ h_ => h_.1)))); (case side2 => exact (Kd.R_reads' HO757.out).2.1); (case side3 => refine (Kd.V_reads' (e := 23) (base := w.heap.size) (ok := fun k_ => ((some k_ ≠ (.slice Ao9 t755.length co9 : Value).ownBlock ∧ some k_ ≠ (.slice Ao12 t761.length co12 : Value).ownBlock) ∧ k_ ≠ gb764)) (n := t758.length) (c := co11) ?_).2.2; exact (by (with_reducible repeat (first | apply Kd.V_alloc | apply Kd.V_drewN | apply Kd.V_drew)); exact (Kd.V_mono (Kd.V_far (p := ⟨gb764, 1, none⟩) (Kd.V_far (p := ⟨gb764, 0, none⟩) (Kd.V_mono HO760.out (fun k_ hk => (⟨hk, hk.2⟩ : _ ∧ k_ ≠ gb764))) (fun _ hk => hk.2) (.slice Ao9 t755.length co9)) (fun _ hk => hk.2) (.slice Ao11 t758.length co11)) (fun _ h_ => h_.1)))); (case side4 => exact (Kd.V_reads' HO760.out).2.1); (case side5 => refine (Kd.R_reads' (e := 36) (base := w.heap.size) (ok := fun k_ => True) (n := t761.length) (c := co12) ?_).2.2; exact (g178_)); (case side6 => exact (Kd.R_reads' HO763.out).2.1); rintro e w13 ⟨v766, rfl, ho0, hb⟩; refine ⟨_, rfl, ?_⟩; replace HO757 := Aside0.mk (Kd.R_below (by (with_reducible repeat (first | apply Kd.R_alloc | apply Kd.R_drewN | apply Kd.R_drew)); exact (Kd.R_mono (Kd.R_far (p := ⟨gb764, 1, none⟩) (Kd.R_far (p := ⟨gb764, 0, none⟩) (Kd.R_types HO757.out BK764.out (by decide)) (fun _ hk => hk.2) (.slice Ao9 t755.length co9)) (fun _ hk => hk.2) (.slice Ao11 t758.length co11)) (fun _ h_ => h_.1))) hb); replace HO760 := Aside0.mk (Kd.V_elder' (by (with_reducible repeat (first | apply Kd.V_alloc | apply Kd.V_drewN | apply Kd.V_drew)); exact (Kd.V_mono (Kd.V_far (p := ⟨gb764, 1, none⟩) (Kd.V_far (p := ⟨gb764, 0, none⟩) (Kd.V_mono HO760.out (fun k_ hk => (⟨hk, hk.2⟩ : _ ∧ k_ ≠ gb764))) (fun _ hk => hk.2) (.slice Ao9 t755.length co9)) (fun _ hk => hk.2) (.slice Ao11 t758.length co11)) (fun _ h_ => h_.1))) (Kd.R_base ho0) hb); have HO767 := Aside0.mk (Kd.R_lower (Kd.R_new' ho0 (Kd.R_lt (g178_))) (below_size (laws_FnKeepsOf.calls_q0))); replace HO763 := Aside0.mk (Kd.R_elder' (g178_) (Kd.R_base ho0) hb); replace BK764 := Aside0.mk (blk_below (g := gb764) (o := .cells #[.slice Ao9 t755.length co9, .slice Ao11 t758.length co11] 26 (0, 0)) (by (with_reducible repeat (first | refine blk_drewN ?_ _ | refine blk_drew ?_ | refine blk_alloc ?_ _)); refine blk_put (cs := #[.slice Ao9 t755.length co9, .slice none 0 0]) ?_ 1 _ rfl; (with_reducible repeat (first | refine blk_drewN ?_ _ | refine blk_drew ?_ | refine blk_alloc ?_ _)); refine blk_put (cs := #[.slice none 0 0, .slice none 0 0]) ?_ 0 _ rfl; (with_reducible repeat (first | refine blk_drewN ?_ _ | refine blk_drew ?_ | refine blk_alloc ?_ _)); exact BK764.out) hb); replace HB := Aside0.mk (below_step (laws_FnKeepsOf.calls_q0) hb); (try clear hb); (try clear hk hi); (try clear ho0); obtain ⟨hcz14_0, hcz14_1, hfz14_0, hfz14_1⟩ := blk2_ BK764) | ((with_reducible refine gate_callee (f := 35) rfl ?_); refine goesL_ (some 29) rfl rfl Try.func35 k_ rfl #[.agg #[.slice Ao9 t755.length co9, .slice Ao11 t758.length co11], .slice Ao12 t761.length co12] rfl (g2_) ?_; (with_reducible refine (spec_KeepsOf.calls k _ _ t755 _ _ t758 _ _ t761 t769 t772 _ ?side1 ?side2 ?side3 ?side4 ?side5 ?side6 A5.out).mono ?_); (case side1 => repeat (first | exact (Kd.R_reads' HO757.out).2.2 | (with_reducible refine Kd.C_alloc ?_ _) | (with_reducible refine Kd.C_drewN ?_ _) | (with_reducible refine Kd.C_drew ?_))); (case side2 => exact (Kd.R_reads' HO757.out).2.1); (case side3 => repeat (first | exact (Kd.V_reads' HO760.out).2.2 | (with_reducible refine Kd.C_alloc ?_ _) | (with_reducible refine Kd.C_drewN ?_ _) | (with_reducible refine Kd.C_drew ?_))); (case side4 => exact (Kd.V_reads' HO760.out).2.1); (case side5 => repeat (first | exact (Kd.R_reads' HO763.out).2.2 | (with_reducible refine Kd.C_alloc ?_ _) | (with_reducible refine Kd.C_drewN ?_ _) | (with_reducible refine Kd.C_drew ?_))); (case side6 => exact (Kd.R_reads' HO763.out).2.1); rintro e w15 ⟨v770, rfl, ho0, hb⟩; refine ⟨_, rfl, ?_⟩; replace HO757 := Aside0.mk (Kd.R_below (uf1_ HO757) hb); replace HO760 := Aside0.mk (Kd.V_elder' (uf5_ HO760) (Kd.R_base ho0) hb); have HO771 := Aside0.mk (Kd.R_lower (Kd.R_new' (Kd.R_new' ho0 (Kd.R_lt (uf1_ HO763))) (Kd.R_lt (uf1_ HO767))) (below_size (laws_FnKeepsOf.calls_q0))); replace HO763 := Aside0.mk (Kd.R_elder' (uf1_ HO763) (Kd.R_base ho0) hb); replace HO767 := Aside0.mk (Kd.R_elder' (uf1_ HO767) (Kd.R_base ho0) hb); replace BK764 := bb_ BK764 hb; replace HB := Aside0.mk (below_step (laws_FnKeepsOf.calls_q0) hb); (try clear hb); (try clear hk hi); (try clear ho0)))
  (try simp only [Act.put, List.setIfInBounds_toArray, List.set_cons_zero, List.set_cons_succ])
  go_cut [40] (fun v40 wc => ∃ (kq : Nat) (x40_5 : Bool), v40 = .bool x40_5 ∧ Aside0 (laws_FnKeepsOf.j0 kq t765 t768 x40_5 t755 t758 = some r) ∧ Aside0 (kq ≤ k) ∧ Aside0 (Kd.R k36 36 wc w.heap.size (fun _ => True) v766 t765) ∧ Aside0 (Kd.R (Kd.int .i64) 3 wc w.heap.size (fun _ => True) (.slice Ao9 t755.length co9) t755) ∧ Aside0 (Kd.V (Kd.slice 3 (Kd.int .i64)) 23 wc w.heap.size (fun k_ => some k_ ≠ (v766 : Value).ownBlock ∧ some k_ ≠ ((.slice Ao9 t755.length co9) : Value).ownBlock ∧ k_ ≠ gb764) (.slice Ao11 t758.length co11) t758) ∧ Aside0 (wc.heap[gb764]? = some (.cells #[(.slice Ao9 t755.length co9), (.slice Ao11 t758.length co11)] 26 (0, 0))) ∧ Aside0 (Below w.heap.size w wc))
  case first =>
   have H := HC6.out
   clear HC6
   obtain ⟨t773, A16, H⟩ := bind_ H
   by_cases c17 : t773 = true
   ·subst c17
    replace H := ifp_ H
    have H' := Aside0.mk H
    clear H
    obtain ⟨Ao18, co18, eo18⟩ := Kd.R_slice HO767.out
    subst eo18
    obtain ⟨Ao19, co19, eo19⟩ := Kd.R_slice HO771.out
    subst eo19
    go_wp2_with (first | ((with_reducible refine gate_callee (f := 14) rfl ?_); refine goesL_ (some 34) rfl rfl Try.func14 k_ rfl #[.slice Ao18 t765.length co18, .slice Ao19 t769.length co19] rfl (g2_) ?_; (with_reducible refine (laws_samePays.calls k _ _ t765 _ _ t769 true _ ?side1 ?side2 ?side3 ?side4 A16.out).mono ?_); (case side1 => repeat (first | exact (Kd.R_reads' HO767.out).2.2 | (with_reducible refine Kd.C_alloc ?_ _) | (with_reducible refine Kd.C_drewN ?_ _) | (with_reducible refine Kd.C_drew ?_))); (case side2 => exact (Kd.R_reads' HO767.out).2.1); (case side3 => repeat (first | exact (Kd.R_reads' HO771.out).2.2 | (with_reducible refine Kd.C_alloc ?_ _) | (with_reducible refine Kd.C_drewN ?_ _) | (with_reducible refine Kd.C_drew ?_))); (case side4 => exact (Kd.R_reads' HO771.out).2.1); rintro e w' ⟨rfl, ⟨nd, rfl⟩⟩; refine ⟨_, rfl, ?_⟩))
    go_meet
    case rel => exact ⟨_, ((t768 != t772)), (g3_), H', ⟨g13_⟩, ⟨by (with_reducible repeat (first | apply Kd.R_alloc | apply Kd.R_drewN | apply Kd.R_drew)); exact Kd.R_mono HO767.out (fun _ hk => trivial)⟩, ⟨uf1_ HO757⟩, ⟨by (with_reducible repeat (first | apply Kd.V_alloc | apply Kd.V_drewN | apply Kd.V_drew)); exact Kd.V_mono HO760.out (fun _ hk => ⟨hk.1.2, ⟨hk.1.1.1.1, hk.1.1.2⟩⟩)⟩, ⟨uf0_ BK764⟩, ⟨laws_FnKeepsOf.calls_q0⟩⟩
   ·replace c17 := Bool.eq_false_iff.mpr c17
    subst c17
    replace H := ifn_ H
    have H' := Aside0.mk H
    clear H
    obtain ⟨Ao20, co20, eo20⟩ := Kd.R_slice HO767.out
    subst eo20
    obtain ⟨Ao21, co21, eo21⟩ := Kd.R_slice HO771.out
    subst eo21
    go_wp2_with (first | ((with_reducible refine gate_callee (f := 14) rfl ?_); refine goesL_ (some 34) rfl rfl Try.func14 k_ rfl #[.slice Ao20 t765.length co20, .slice Ao21 t769.length co21] rfl (g2_) ?_; (with_reducible refine (laws_samePays.calls k _ _ t765 _ _ t769 false _ ?side1 ?side2 ?side3 ?side4 A16.out).mono ?_); (case side1 => repeat (first | exact (Kd.R_reads' HO767.out).2.2 | (with_reducible refine Kd.C_alloc ?_ _) | (with_reducible refine Kd.C_drewN ?_ _) | (with_reducible refine Kd.C_drew ?_))); (case side2 => exact (Kd.R_reads' HO767.out).2.1); (case side3 => repeat (first | exact (Kd.R_reads' HO771.out).2.2 | (with_reducible refine Kd.C_alloc ?_ _) | (with_reducible refine Kd.C_drewN ?_ _) | (with_reducible refine Kd.C_drew ?_))); (case side4 => exact (Kd.R_reads' HO771.out).2.1); rintro e w' ⟨rfl, ⟨nd, rfl⟩⟩; refine ⟨_, rfl, ?_⟩))
    go_meet
    case rel => exact ⟨_, (true), (g3_), H', ⟨g13_⟩, ⟨by (with_reducible repeat (first | apply Kd.R_alloc | apply Kd.R_drewN | apply Kd.R_drew)); exact Kd.R_mono HO767.out (fun _ hk => trivial)⟩, ⟨uf1_ HO757⟩, ⟨by (with_reducible repeat (first | apply Kd.V_alloc | apply Kd.V_drewN | apply Kd.V_drew)); exact Kd.V_mono HO760.out (fun _ hk => ⟨hk.1.2, ⟨hk.1.1.1.1, hk.1.1.2⟩⟩)⟩, ⟨uf0_ BK764⟩, ⟨laws_FnKeepsOf.calls_q0⟩⟩
  case rest =>
   clear HC6
   try clear c1
   try clear c2
   try clear c2b0
   try clear c2b1
   try clear p2
   try clear c3
   try clear c7
   try clear c14
   try clear c17
   try clear hcz10_0
   try clear hcz10_1
   try clear hcz14_0
   try clear hcz14_1
   try clear hfz10_0
   try clear hfz10_1
   try clear hfz14_0
   try clear hfz14_1
   obtain ⟨kq, x40_5, rfl, HA, HJ5, HO_5, HO_765000, HO_765001, BK764, HB⟩ := hcut
   cases kq with
   | zero => exact absurd HA.out (by simp [laws_FnKeepsOf.j0])
   | succ kj5 =>
    have H := HA.out
    clear HA
    simp only [laws_FnKeepsOf.j0] at H
    by_cases c22 : x40_5 = true
    ·subst c22
     replace H := ifp_ H
     obtain rfl := Option.some.inj H
     go_wp2
     go_ret
     exact ⟨g4_, laws_FnKeepsOf.calls_q0⟩
    ·replace c22 := Bool.eq_false_iff.mpr c22
     subst c22
     replace H := ifn_ H
     by_cases c23 : t768 = true
     ·subst c23
      replace H := ifp_ H
      have H' := Aside0.mk H
      clear H
      go_wp2_with (first | ((with_reducible refine gate_dst (N := 9) rfl ?_); refine bx_ (N := 9) #[.int .i64 0, .int .i64 0] 36 ?_; intro gb775 hg w24 hbox hb; replace HO_5 := Aside0.mk (Kd.R_below (Kd.R_elderB (uf1_ HO_5) gb775 (Nat.le_of_eq hg.symm)) hb); replace HO_765000 := Aside0.mk (Kd.R_below (uf1_ HO_765000) hb); replace HO_765001 := Aside0.mk (Kd.V_below (Kd.V_elderB (uf5_ HO_765001) gb775 (Nat.le_of_eq hg.symm)) hb); have BK775 := Aside0.mk (hbox); have GW775 := Aside0.mk ((g111_ : w.heap.size ≤ gb775)); have GE775 := Aside0.mk ((g111_ : w.heap.size ≤ gb775)); replace HB := Aside0.mk (below_step (laws_FnKeepsOf.calls_q0) hb); have NB764_775 := Aside0.mk ((by rw [hg]; exact Nat.ne_of_lt (blk_lt (g := gb764) (o := .cells #[.slice Ao9 t755.length co9, .slice Ao11 t758.length co11] 26 (0, 0)) (uf0_ BK764)) : gb764 ≠ gb775)); have NB775_764 := Aside0.mk ((by rw [hg]; exact Nat.ne_of_gt (blk_lt (g := gb764) (o := .cells #[.slice Ao9 t755.length co9, .slice Ao11 t758.length co11] 26 (0, 0)) (uf0_ BK764)) : gb775 ≠ gb764)); replace BK764 := bb_ BK764 hb; clear hb hbox hg; have hnb25 := NB775_764.out; have hnc25 := NB764_775.out; obtain ⟨hcz26_0, hcz26_1, hfz26_0, hfz26_1⟩ := blk2_ BK775))
      go_loopg [10, 11] kj5 (fun kq v10 v11 w' => ∃ (x10_2 : Bool) (x11_2 : Int) (x776000_2 : Int) (x776001_2 : Int), v10 = .bool x10_2 ∧ v11 = .int .i64 x11_2 ∧ Aside0 (laws_FnKeepsOf.l0 kq t765 x10_2 x11_2 t755 t758 x776000_2 x776001_2 = some r) ∧ Aside0 (kq ≤ kj5) ∧ Aside0 (Kd.R k36 36 w' w.heap.size (fun k_ => k_ ≠ gb775) v766 t765) ∧ Aside0 (Kd.R (Kd.int .i64) 3 w' w.heap.size (fun _ => True) (.slice Ao9 t755.length co9) t755) ∧ Aside0 (Kd.V (Kd.slice 3 (Kd.int .i64)) 23 w' w.heap.size (fun k_ => some k_ ≠ (v766 : Value).ownBlock ∧ some k_ ≠ ((.slice Ao9 t755.length co9) : Value).ownBlock ∧ k_ ≠ gb764 ∧ k_ ≠ gb775) (.slice Ao11 t758.length co11) t758) ∧ Aside0 (w'.heap[gb764]? = some (.cells #[(.slice Ao9 t755.length co9), (.slice Ao11 t758.length co11)] 26 (0, 0))) ∧ Aside0 (w'.heap[gb775]? = some (.cells #[.int .i64 x776000_2, .int .i64 x776001_2] 36 (0, 0))) ∧ Aside0 (Below w.heap.size w w'))
      case atStart => exact ⟨(true), (0), (0), (1), (g3_), (g3_), H', ⟨Nat.le_refl _⟩, ⟨by (with_reducible repeat (first | apply Kd.R_alloc | apply Kd.R_drewN | apply Kd.R_drew)); exact Kd.R_mono (Kd.R_far (p := ⟨gb775, 1, none⟩) (Kd.R_far (p := ⟨gb775, 0, none⟩) (Kd.R_mono HO_5.out (fun k_ hk => (⟨hk, hk.2⟩ : _ ∧ k_ ≠ gb775))) (fun _ hk => hk.2) (.int .i64 0)) (fun _ hk => hk.2) (.int .i64 1)) (fun _ hk => hk.1.2)⟩, ⟨by (with_reducible repeat (first | apply Kd.R_alloc | apply Kd.R_drewN | apply Kd.R_drew)); exact Kd.R_mono (Kd.R_far (p := ⟨gb775, 1, none⟩) (Kd.R_far (p := ⟨gb775, 0, none⟩) (Kd.R_types HO_765000.out BK775.out (by decide)) (fun _ hk => hk.2) (.int .i64 0)) (fun _ hk => hk.2) (.int .i64 1)) (fun _ hk => trivial)⟩, ⟨by (with_reducible repeat (first | apply Kd.V_alloc | apply Kd.V_drewN | apply Kd.V_drew)); exact Kd.V_mono (Kd.V_far (p := ⟨gb775, 1, none⟩) (Kd.V_far (p := ⟨gb775, 0, none⟩) (Kd.V_mono HO_765001.out (fun k_ hk => (⟨hk, hk.2⟩ : _ ∧ k_ ≠ gb775))) (fun _ hk => hk.2) (.int .i64 0)) (fun _ hk => hk.2) (.int .i64 1)) (fun _ hk => ⟨hk.1.1.1, ⟨hk.1.1.2.1, ⟨hk.1.1.2.2, hk.1.2⟩⟩⟩)⟩, ⟨by (with_reducible repeat (first | refine blk_drewN ?_ _ | refine blk_drew ?_ | refine blk_alloc ?_ _)); refine blk_far ?_ NB764_775.out _; (with_reducible repeat (first | refine blk_drewN ?_ _ | refine blk_drew ?_ | refine blk_alloc ?_ _)); refine blk_far ?_ NB764_775.out _; (with_reducible repeat (first | refine blk_drewN ?_ _ | refine blk_drew ?_ | refine blk_alloc ?_ _)); exact BK764.out⟩, ⟨by (with_reducible repeat (first | refine blk_drewN ?_ _ | refine blk_drew ?_ | refine blk_alloc ?_ _)); refine blk_put (cs := #[.int .i64 0, .int .i64 0]) ?_ 1 _ rfl; (with_reducible repeat (first | refine blk_drewN ?_ _ | refine blk_drew ?_ | refine blk_alloc ?_ _)); refine blk_put (cs := #[.int .i64 0, .int .i64 0]) ?_ 0 _ rfl; (with_reducible repeat (first | refine blk_drewN ?_ _ | refine blk_drew ?_ | refine blk_alloc ?_ _)); exact BK775.out⟩, ⟨laws_FnKeepsOf.calls_q0⟩⟩
      case round =>
       clear H'
       try clear c1
       try clear c2
       try clear c2b0
       try clear c2b1
       try clear p2
       try clear c3
       try clear c7
       try clear c14
       try clear c17
       try clear c22
       try clear c23
       try clear c25
       try clear hcz10_0
       try clear hcz10_1
       try clear hcz14_0
       try clear hcz14_1
       try clear hcz26_0
       try clear hcz26_1
       try clear hfz10_0
       try clear hfz10_1
       try clear hfz14_0
       try clear hfz14_1
       try clear hfz26_0
       try clear hfz26_1
       try clear p2
       obtain ⟨x10_2, x11_2, x776000_2, x776001_2, rfl, rfl, HA, HK2, HO_5, HO_765000, HO_765001, BK764, BK775, HB⟩ := hrel
       cases gk with
       | zero => exact absurd HA.out (by simp [laws_FnKeepsOf.l0])
       | succ k2 =>
        have H := HA.out
        clear HA
        simp only [laws_FnKeepsOf.l0] at H
        by_cases c27 : x11_2 < (t765.length : Int)
        ·rw [if_pos c27] at H
         have c27b0 := decide_eq_true c27
         clear c27
         by_cases c28 : x10_2 = true
         ·subst c28
          replace H := ifp_ H
          obtain ⟨c29, H⟩ := pos_ H
          have c29b0 := decide_eq_true c29
          clear c29
          replace H := Option.bind_eq_some_iff.mp H
          obtain ⟨⟨t777, t778, t779⟩, A300, H⟩ := H
          replace H : (laws_FnKeepsOf.l0 k2 t765 t779 (wrap64 (x11_2 + 1)) t755 t758 t777 t778) = some r := H
          have A30 := Aside0.mk A300
          clear A300
          have H' := Aside0.mk H
          clear H
          obtain ⟨Ao31, co31, eo31⟩ := Kd.R_slice HO_5.out
          subst eo31
          try go_wp2
          replace HO_5 := Aside0.mk (Kd.R_drew HO_5.out)
          replace HO_765000 := Aside0.mk (Kd.R_drew HO_765000.out)
          replace HO_765001 := Aside0.mk (Kd.V_drew HO_765001.out)
          replace BK764 := Aside0.mk (blk_drew BK764.out)
          replace BK775 := Aside0.mk (blk_drew BK775.out)
          replace HB := Aside0.mk (below_drew1 HB.out)
          have p776 : 0 ≤ (x11_2 : Int) := of_decide_eq_true (g1_)
          have q776 : x11_2 < (t765.length : Int) := of_decide_eq_true (g1_)
          obtain ⟨ad776, e776, hx776_0, hx776_1⟩ := at_T36 (Kd.R_reads' HO_5.out).2.2 x11_2 p776 q776
          cases e776
          replace p776 := eq_true p776
          replace q776 := eq_true q776
          refine start_ (n := 11) (S := fun w' => w'.cell? ⟨gb775, 0, none⟩ = some (.int .i64 x776000_2) ∧ w'.cell? ⟨gb775, 1, none⟩ = some (.int .i64 x776001_2) ∧ w'.cell? (ad776.add ((x11_2).toNat * 2)) = some (.int .i64 ((rd_T36 t765 x11_2).f0)) ∧ w'.cell? ⟨(ad776.add ((x11_2).toNat * 2)).block, (ad776.add ((x11_2).toNat * 2)).off + 1, none⟩ = some (.int .i64 ((rd_T36 t765 x11_2).f1))) (ds := [9]) (tl_ 11 0) (g0_) rfl (g0_) ⟨(blk_cell BK775.out 0).trans rfl, (blk_cell BK775.out 1).trans rfl, hx776_0, hx776_1⟩ (fun hHeld => ?_); refine with_tabW laws_FnKeepsOf.tab15 laws_FnKeepsOf.bits15 (fun HT_ HW_ => ?_)
          generalize wr.drew = w32 at HO_5 HO_765000 HO_765001 BK764 BK775 HB hx776_0 hx776_1 hHeld ⊢
          refine pw_ 1 61 (tl_ 11 2) rfl rfl ?_
          refine pw_ 2 62 (tl_ 11 6) rfl rfl ?_
          refine pw_ 3 63 (tl_ 11 14) rfl rfl ?_
          refine tk3_ 0 60 (tl_ 11 15) rfl rfl hHeld ?_
          refine tk3_ 4 64 (tl_ 11 31) rfl rfl hHeld ?_
          refine one_ (i := 5) (N := some 65) (tl_ 11 63) rfl rfl (one_of HT_.out (g0_)) (by decide) (fun K hK => ?_)
          refine goes_ Try.func36 (g0_) rfl #[.agg #[.int .i64 x776000_2, .int .i64 x776001_2], .agg #[.int .i64 ((rd_T36 t765 x11_2).f0), .int .i64 ((rd_T36 t765 x11_2).f1)]] (by rfl) rfl rfl (g2_) ?_
          with_reducible refine (impl_PlusOf.calls k2 x776000_2 x776001_2 ((rd_T36 t765 x11_2).f0) ((rd_T36 t765 x11_2).f1) t777 t778 t779 _ A30.out).mono ?_
          rintro e w33 ⟨rfl, hb⟩
          have HS2_ := (hb.cell (World.block_lt_of_cell? _ _ (hHeld.2.2.1))).trans (hHeld.2.2.1)
          have HS3_ := (hb.cell (World.block_lt_of_cell? _ _ (hHeld.2.2.2))).trans (hHeld.2.2.2)
          refine ⟨_, rfl, ?_⟩
          replace HO_5 := Aside0.mk (Kd.R_below (uf1_ HO_5) hb)
          replace HO_765000 := Aside0.mk (Kd.R_below (uf1_ HO_765000) hb)
          replace HO_765001 := Aside0.mk (Kd.V_below (uf5_ HO_765001) hb)
          replace BK764 := bb_ BK764 hb
          replace BK775 := bb_ BK775 hb
          replace HB := Aside0.mk (below_step (laws_FnKeepsOf.calls_q0) hb)
          (try clear hb)
          (try clear hk hi)
          refine hK.out _ _ ⟨(blk_cell BK775.out 0).trans rfl, (blk_cell BK775.out 1).trans rfl, HS2_, HS3_⟩ (fun hHeld => ?_)
          clear hK K
          refine nm_ ?_
          refine pw_ 6 59 (tl_ 11 127) rfl rfl ?_
          refine pw_ 7 66 (tl_ 11 255) rfl rfl ?_
          refine pw_ 8 67 (tl_ 11 511) rfl rfl ?_
          refine last_ (i := 9) (N := none) (tl_ 11 1023) rfl rfl (one_of HT_.out (g0_)) (by decide) (fun K hK => ?_)
          have hs34 : w33.cell? ⟨gb775, 0, none⟩ = some (.int .i64 x776000_2) := (blk_cell BK775.out 0).trans rfl
          have hfs34 := blk_frozen BK775.out 0
          have hns34_0 := NB764_775.out
          have hms34_0 := NB775_764.out
          have hs35 : w33.cell? ⟨gb775, 1, none⟩ = some (.int .i64 x776001_2) := (blk_cell BK775.out 1).trans rfl
          have hfs35 := blk_frozen BK775.out 1
          have hns35_0 := NB764_775.out
          have hms35_0 := NB775_764.out
          refine skip_ (w1 := ?_) (by rfl) rfl ?_ ?_
          rotate_left
          ·go_simp
           rfl
          refine hK.out _ _ ?_
          clear hK K
          refine pw_ 10 10 (tl_ 11 2047) rfl rfl ?_
          refine done_ (done_of HT_.out (g0_)) ?_
          try go_wp2
          go_roundg k2
          case measure => have := HJ5.out; have := HK2.out; omega
          case rel => exact ⟨(t779), (wrap64 (x11_2 + 1)), (t777), (t778), (g3_), (g3_), H', ⟨by have := HJ5.out; have := HK2.out; omega⟩, ⟨by (with_reducible repeat (first | apply Kd.R_alloc | apply Kd.R_drewN | apply Kd.R_drew)); exact Kd.R_mono (Kd.R_far (p := ⟨gb775, 1, none⟩) (Kd.R_far (p := ⟨gb775, 0, none⟩) (Kd.R_mono HO_5.out (fun k_ hk => (⟨hk, hk⟩ : _ ∧ k_ ≠ gb775))) (fun _ hk => hk.2) (.int .i64 t777)) (fun _ hk => hk.2) (.int .i64 t778)) (fun _ hk => hk.1)⟩, ⟨by (with_reducible repeat (first | apply Kd.R_alloc | apply Kd.R_drewN | apply Kd.R_drew)); exact Kd.R_mono (Kd.R_far (p := ⟨gb775, 1, none⟩) (Kd.R_far (p := ⟨gb775, 0, none⟩) (Kd.R_types HO_765000.out BK775.out (by decide)) (fun _ hk => hk.2) (.int .i64 t777)) (fun _ hk => hk.2) (.int .i64 t778)) (fun _ hk => trivial)⟩, ⟨by (with_reducible repeat (first | apply Kd.V_alloc | apply Kd.V_drewN | apply Kd.V_drew)); exact Kd.V_mono (Kd.V_far (p := ⟨gb775, 1, none⟩) (Kd.V_far (p := ⟨gb775, 0, none⟩) (Kd.V_mono HO_765001.out (fun k_ hk => (⟨hk, hk.2.2.2⟩ : _ ∧ k_ ≠ gb775))) (fun _ hk => hk.2) (.int .i64 t777)) (fun _ hk => hk.2) (.int .i64 t778)) (fun _ hk => ⟨hk.1.1, ⟨hk.1.2.1, ⟨hk.1.2.2.1, hk.1.2.2.2⟩⟩⟩)⟩, ⟨by (with_reducible repeat (first | refine blk_drewN ?_ _ | refine blk_drew ?_ | refine blk_alloc ?_ _)); refine blk_far ?_ NB764_775.out _; (with_reducible repeat (first | refine blk_drewN ?_ _ | refine blk_drew ?_ | refine blk_alloc ?_ _)); refine blk_far ?_ NB764_775.out _; (with_reducible repeat (first | refine blk_drewN ?_ _ | refine blk_drew ?_ | refine blk_alloc ?_ _)); exact BK764.out⟩, ⟨by (with_reducible repeat (first | refine blk_drewN ?_ _ | refine blk_drew ?_ | refine blk_alloc ?_ _)); refine blk_put (cs := #[.int .i64 t777, .int .i64 x776001_2]) ?_ 1 _ rfl; (with_reducible repeat (first | refine blk_drewN ?_ _ | refine blk_drew ?_ | refine blk_alloc ?_ _)); refine blk_put (cs := #[.int .i64 x776000_2, .int .i64 x776001_2]) ?_ 0 _ rfl; (with_reducible repeat (first | refine blk_drewN ?_ _ | refine blk_drew ?_ | refine blk_alloc ?_ _)); exact BK775.out⟩, ⟨laws_FnKeepsOf.calls_q0⟩⟩
         ·replace c28 := Bool.eq_false_iff.mpr c28
          subst c28
          replace H := ifn_ H
          by_cases c36 : (t765.length : Int) = (t755.length : Int)
          ·rw [if_pos c36] at H
           have c36b0 : ((t765.length : Int) == (t755.length : Int)) = true := beq_iff_eq.mpr c36
           have c36b1 : ((t765.length : Int) != (t755.length : Int)) = false := bne_eq_false_iff_eq.mpr c36
           have c36b2 : (t765.length == t755.length) = true := by first | simpa using c36 | (simp at c36 ⊢; omega)
           clear c36
           obtain rfl := Option.some.inj H
           obtain ⟨Ao37, co37, eo37⟩ := Kd.R_slice HO_5.out
           subst eo37
           try go_wp2
           replace HO_5 := Aside0.mk (Kd.R_drew HO_5.out)
           replace HO_765000 := Aside0.mk (Kd.R_drew HO_765000.out)
           replace HO_765001 := Aside0.mk (Kd.V_drew HO_765001.out)
           replace BK764 := Aside0.mk (blk_drew BK764.out)
           replace BK775 := Aside0.mk (blk_drew BK775.out)
           replace HB := Aside0.mk (below_drew1 HB.out)
           refine start_ (n := 19) (S := fun w' => w'.cell? ⟨gb764, 0, none⟩ = some (.slice Ao9 t755.length co9) ∧ w'.cell? ⟨gb764, 1, none⟩ = some (.slice Ao11 t758.length co11)) (ds := []) (tl_ 19 0) (g0_) rfl (g0_) ⟨(blk_cell BK764.out 0).trans rfl, (blk_cell BK764.out 1).trans rfl⟩ (fun hHeld => ?_); refine with_tabW laws_FnKeepsOf.tab16 laws_FnKeepsOf.bits16 (fun HT_ HW_ => ?_)
           generalize wr.drew = w38 at HO_5 HO_765000 HO_765001 BK764 BK775 HB hHeld ⊢
           refine pw_ 0 68 (tl_ 19 1) rfl rfl ?_
           refine pw_ 1 69 (tl_ 19 3) rfl rfl ?_
           refine pw_ 2 70 (tl_ 19 7) rfl rfl ?_
           refine tk0_ 3 71 (tl_ 19 15) rfl rfl hHeld ?_
           refine pw_ 4 72 (tl_ 19 31) rfl rfl ?_
           refine pw_ 5 73 (tl_ 19 63) rfl rfl ?_
           refine pw_ 6 74 (tl_ 19 127) rfl rfl ?_
           refine pw_ 7 75 (tl_ 19 255) rfl rfl ?_
           refine pw_ 8 76 (tl_ 19 511) rfl rfl ?_
           refine pw_ 9 77 (tl_ 19 1023) rfl rfl ?_
           refine pu_ 10 78 (tl_ 19 2047) rfl rfl ?_
           refine pu_ 11 79 (tl_ 19 4095) rfl rfl ?_
           refine pu_ 12 80 (tl_ 19 8191) rfl rfl ?_
           refine pu_ 13 81 (tl_ 19 16383) rfl rfl ?_
           refine pu_ 14 82 (tl_ 19 32767) rfl rfl ?_
           refine pu_ 15 83 (tl_ 19 65535) rfl rfl ?_
           refine pw_ 16 84 (tl_ 19 131071) rfl rfl ?_
           refine pw_ 17 85 (tl_ 19 262143) rfl rfl ?_
           refine pw_ 18 2 (tl_ 19 524287) rfl rfl ?_
           refine done_ (done_of HT_.out (g0_)) ?_
           try go_wp2
           go_ret
           exact ⟨g4_, laws_FnKeepsOf.calls_q0⟩
          ·rw [if_neg c36] at H
           have c36b0 : ((t765.length : Int) == (t755.length : Int)) = false := beq_eq_false_iff_ne.mpr c36
           have c36b1 : ((t765.length : Int) != (t755.length : Int)) = true := bne_iff_ne.mpr c36
           have c36b2 : (t765.length == t755.length) = false := by first | simpa using c36 | (simp at c36 ⊢; omega)
           obtain rfl := Option.some.inj H
           obtain ⟨Ao39, co39, eo39⟩ := Kd.R_slice HO_5.out
           subst eo39
           try go_wp2
           replace HO_5 := Aside0.mk (Kd.R_drew HO_5.out)
           replace HO_765000 := Aside0.mk (Kd.R_drew HO_765000.out)
           replace HO_765001 := Aside0.mk (Kd.V_drew HO_765001.out)
           replace BK764 := Aside0.mk (blk_drew BK764.out)
           replace BK775 := Aside0.mk (blk_drew BK775.out)
           replace HB := Aside0.mk (below_drew1 HB.out)
           refine start_ (n := 19) (S := fun w' => w'.cell? ⟨gb764, 0, none⟩ = some (.slice Ao9 t755.length co9) ∧ w'.cell? ⟨gb764, 1, none⟩ = some (.slice Ao11 t758.length co11)) (ds := []) (tl_ 19 0) (g0_) rfl (g0_) ⟨(blk_cell BK764.out 0).trans rfl, (blk_cell BK764.out 1).trans rfl⟩ (fun hHeld => ?_); refine with_tabW laws_FnKeepsOf.tab16 laws_FnKeepsOf.bits16 (fun HT_ HW_ => ?_)
           generalize wr.drew = w40 at HO_5 HO_765000 HO_765001 BK764 BK775 HB hHeld ⊢
           refine pw_ 0 68 (tl_ 19 1) rfl rfl ?_
           refine pw_ 1 69 (tl_ 19 3) rfl rfl ?_
           refine pw_ 2 70 (tl_ 19 7) rfl rfl ?_
           refine tk0_ 3 71 (tl_ 19 15) rfl rfl hHeld ?_
           refine pw_ 4 72 (tl_ 19 31) rfl rfl ?_
           refine pw_ 5 73 (tl_ 19 63) rfl rfl ?_
           refine pw_ 6 74 (tl_ 19 127) rfl rfl ?_
           refine pu_ 7 75 (tl_ 19 255) rfl rfl ?_
           refine pu_ 8 76 (tl_ 19 511) rfl rfl ?_
           refine pu_ 9 77 (tl_ 19 1023) rfl rfl ?_
           refine pu_ 10 78 (tl_ 19 2047) rfl rfl ?_
           refine pu_ 11 79 (tl_ 19 4095) rfl rfl ?_
           refine pu_ 12 80 (tl_ 19 8191) rfl rfl ?_
           refine pu_ 13 81 (tl_ 19 16383) rfl rfl ?_
           refine pu_ 14 82 (tl_ 19 32767) rfl rfl ?_
           refine pu_ 15 83 (tl_ 19 65535) rfl rfl ?_
           refine pu_ 16 84 (tl_ 19 131071) rfl rfl ?_
           refine pw_ 17 85 (tl_ 19 262143) rfl rfl ?_
           refine pw_ 18 2 (tl_ 19 524287) rfl rfl ?_
           refine done_ (done_of HT_.out (g0_)) ?_
           try go_wp2
           go_ret
           exact ⟨g4_, laws_FnKeepsOf.calls_q0⟩
        ·rw [if_neg c27] at H
         have c27b0 := decide_eq_false c27
         clear c27
         by_cases c41 : (t765.length : Int) = (t755.length : Int)
         ·rw [if_pos c41] at H
          have c41b0 : ((t765.length : Int) == (t755.length : Int)) = true := beq_iff_eq.mpr c41
          have c41b1 : ((t765.length : Int) != (t755.length : Int)) = false := bne_eq_false_iff_eq.mpr c41
          have c41b2 : (t765.length == t755.length) = true := by first | simpa using c41 | (simp at c41 ⊢; omega)
          clear c41
          by_cases c42 : x10_2 = true
          ·subst c42
           replace H := ifp_ H
           obtain ⟨t780, A43, H⟩ := bind_ H
           obtain rfl := Option.some.inj H
           obtain ⟨Ao44, co44, eo44⟩ := Kd.R_slice HO_5.out
           subst eo44
           try go_wp2
           replace HO_5 := Aside0.mk (Kd.R_drew HO_5.out)
           replace HO_765000 := Aside0.mk (Kd.R_drew HO_765000.out)
           replace HO_765001 := Aside0.mk (Kd.V_drew HO_765001.out)
           replace BK764 := Aside0.mk (blk_drew BK764.out)
           replace BK775 := Aside0.mk (blk_drew BK775.out)
           replace HB := Aside0.mk (below_drew1 HB.out)
           refine start_ (n := 19) (S := fun w' => w'.cell? ⟨gb764, 0, none⟩ = some (.slice Ao9 t755.length co9) ∧ w'.cell? ⟨gb764, 1, none⟩ = some (.slice Ao11 t758.length co11) ∧ w'.cell? ⟨gb775, 0, none⟩ = some (.int .i64 x776000_2) ∧ w'.cell? ⟨gb775, 1, none⟩ = some (.int .i64 x776001_2)) (ds := []) (tl_ 19 0) (g0_) rfl (g0_) ⟨(blk_cell BK764.out 0).trans rfl, (blk_cell BK764.out 1).trans rfl, (blk_cell BK775.out 0).trans rfl, (blk_cell BK775.out 1).trans rfl⟩ (fun hHeld => ?_); refine with_tabW laws_FnKeepsOf.tab16 laws_FnKeepsOf.bits16 (fun HT_ HW_ => ?_)
           generalize wr.drew = w45 at HO_5 HO_765000 HO_765001 BK764 BK775 HB hHeld ⊢
           refine pw_ 0 68 (tl_ 19 1) rfl rfl ?_
           refine pw_ 1 69 (tl_ 19 3) rfl rfl ?_
           refine pw_ 2 70 (tl_ 19 7) rfl rfl ?_
           refine tk3_ 3 71 (tl_ 19 15) rfl rfl hHeld ?_
           refine pw_ 4 72 (tl_ 19 31) rfl rfl ?_
           refine pw_ 5 73 (tl_ 19 63) rfl rfl ?_
           refine pw_ 6 74 (tl_ 19 127) rfl rfl ?_
           refine pw_ 7 75 (tl_ 19 255) rfl rfl ?_
           refine pw_ 8 76 (tl_ 19 511) rfl rfl ?_
           refine pw_ 9 77 (tl_ 19 1023) rfl rfl ?_
           refine pw_ 11 79 (tl_ 19 3071) rfl rfl ?_
           refine tk3_ 10 78 (tl_ 19 4095) rfl rfl hHeld ?_
           refine tk3_ 12 80 (tl_ 19 8191) rfl rfl hHeld ?_
           refine one_ (i := 13) (N := some 81) (tl_ 19 16383) rfl rfl (one_of HT_.out (g0_)) (by decide) (fun K hK => ?_)
           refine goes_ Try.func37 (g0_) rfl #[.slice Ao9 t755.length co9] (by rfl) rfl rfl (g2_) ?_
           with_reducible refine (laws_sumOf.calls k2 _ _ t755 t780 _ ?side1 ?side2 A43.out).mono ?_
           (case side1 => repeat (first | exact (Kd.R_reads' HO_765000.out).2.2 | (with_reducible refine Kd.C_alloc ?_ _) | (with_reducible refine Kd.C_drewN ?_ _) | (with_reducible refine Kd.C_drew ?_)))
           (case side2 => exact (Kd.R_reads' HO_765000.out).2.1)
           rintro e w' ⟨rfl, ⟨nd, rfl⟩⟩
           refine ⟨_, rfl, ?_⟩
           refine hK.out _ _ ⟨(blk_cell BK764.out 0).trans rfl, (blk_cell BK764.out 1).trans rfl, (blk_cell BK775.out 0).trans rfl, (blk_cell BK775.out 1).trans rfl⟩ (fun hHeld => ?_)
           clear hK K
           refine nm_ ?_
           refine pw_ 14 82 (tl_ 19 32767) rfl rfl ?_
           refine pw_ 15 83 (tl_ 19 65535) rfl rfl ?_
           refine pw_ 16 84 (tl_ 19 131071) rfl rfl ?_
           refine pw_ 17 85 (tl_ 19 262143) rfl rfl ?_
           refine pw_ 18 2 (tl_ 19 524287) rfl rfl ?_
           refine done_ (done_of HT_.out (g0_)) ?_
           try go_wp2
           go_ret
           exact ⟨g4_, laws_FnKeepsOf.calls_q0⟩
          ·replace c42 := Bool.eq_false_iff.mpr c42
           subst c42
           replace H := ifn_ H
           obtain rfl := Option.some.inj H
           obtain ⟨Ao46, co46, eo46⟩ := Kd.R_slice HO_5.out
           subst eo46
           try go_wp2
           replace HO_5 := Aside0.mk (Kd.R_drew HO_5.out)
           replace HO_765000 := Aside0.mk (Kd.R_drew HO_765000.out)
           replace HO_765001 := Aside0.mk (Kd.V_drew HO_765001.out)
           replace BK764 := Aside0.mk (blk_drew BK764.out)
           replace BK775 := Aside0.mk (blk_drew BK775.out)
           replace HB := Aside0.mk (below_drew1 HB.out)
           refine start_ (n := 19) (S := fun w' => w'.cell? ⟨gb764, 0, none⟩ = some (.slice Ao9 t755.length co9) ∧ w'.cell? ⟨gb764, 1, none⟩ = some (.slice Ao11 t758.length co11)) (ds := []) (tl_ 19 0) (g0_) rfl (g0_) ⟨(blk_cell BK764.out 0).trans rfl, (blk_cell BK764.out 1).trans rfl⟩ (fun hHeld => ?_); refine with_tabW laws_FnKeepsOf.tab16 laws_FnKeepsOf.bits16 (fun HT_ HW_ => ?_)
           generalize wr.drew = w47 at HO_5 HO_765000 HO_765001 BK764 BK775 HB hHeld ⊢
           refine pw_ 0 68 (tl_ 19 1) rfl rfl ?_
           refine pw_ 1 69 (tl_ 19 3) rfl rfl ?_
           refine pw_ 2 70 (tl_ 19 7) rfl rfl ?_
           refine tk0_ 3 71 (tl_ 19 15) rfl rfl hHeld ?_
           refine pw_ 4 72 (tl_ 19 31) rfl rfl ?_
           refine pw_ 5 73 (tl_ 19 63) rfl rfl ?_
           refine pw_ 6 74 (tl_ 19 127) rfl rfl ?_
           refine pw_ 7 75 (tl_ 19 255) rfl rfl ?_
           refine pw_ 8 76 (tl_ 19 511) rfl rfl ?_
           refine pw_ 9 77 (tl_ 19 1023) rfl rfl ?_
           refine pu_ 10 78 (tl_ 19 2047) rfl rfl ?_
           refine pu_ 11 79 (tl_ 19 4095) rfl rfl ?_
           refine pu_ 12 80 (tl_ 19 8191) rfl rfl ?_
           refine pu_ 13 81 (tl_ 19 16383) rfl rfl ?_
           refine pu_ 14 82 (tl_ 19 32767) rfl rfl ?_
           refine pu_ 15 83 (tl_ 19 65535) rfl rfl ?_
           refine pw_ 16 84 (tl_ 19 131071) rfl rfl ?_
           refine pw_ 17 85 (tl_ 19 262143) rfl rfl ?_
           refine pw_ 18 2 (tl_ 19 524287) rfl rfl ?_
           refine done_ (done_of HT_.out (g0_)) ?_
           try go_wp2
           go_ret
           exact ⟨g4_, laws_FnKeepsOf.calls_q0⟩
         ·rw [if_neg c41] at H
          have c41b0 : ((t765.length : Int) == (t755.length : Int)) = false := beq_eq_false_iff_ne.mpr c41
          have c41b1 : ((t765.length : Int) != (t755.length : Int)) = true := bne_iff_ne.mpr c41
          have c41b2 : (t765.length == t755.length) = false := by first | simpa using c41 | (simp at c41 ⊢; omega)
          obtain rfl := Option.some.inj H
          obtain ⟨Ao48, co48, eo48⟩ := Kd.R_slice HO_5.out
          subst eo48
          try go_wp2
          replace HO_5 := Aside0.mk (Kd.R_drew HO_5.out)
          replace HO_765000 := Aside0.mk (Kd.R_drew HO_765000.out)
          replace HO_765001 := Aside0.mk (Kd.V_drew HO_765001.out)
          replace BK764 := Aside0.mk (blk_drew BK764.out)
          replace BK775 := Aside0.mk (blk_drew BK775.out)
          replace HB := Aside0.mk (below_drew1 HB.out)
          refine start_ (n := 19) (S := fun w' => w'.cell? ⟨gb764, 0, none⟩ = some (.slice Ao9 t755.length co9) ∧ w'.cell? ⟨gb764, 1, none⟩ = some (.slice Ao11 t758.length co11)) (ds := []) (tl_ 19 0) (g0_) rfl (g0_) ⟨(blk_cell BK764.out 0).trans rfl, (blk_cell BK764.out 1).trans rfl⟩ (fun hHeld => ?_); refine with_tabW laws_FnKeepsOf.tab16 laws_FnKeepsOf.bits16 (fun HT_ HW_ => ?_)
          generalize wr.drew = w49 at HO_5 HO_765000 HO_765001 BK764 BK775 HB hHeld ⊢
          refine pw_ 0 68 (tl_ 19 1) rfl rfl ?_
          refine pw_ 1 69 (tl_ 19 3) rfl rfl ?_
          refine pw_ 2 70 (tl_ 19 7) rfl rfl ?_
          refine tk0_ 3 71 (tl_ 19 15) rfl rfl hHeld ?_
          refine pw_ 4 72 (tl_ 19 31) rfl rfl ?_
          refine pw_ 5 73 (tl_ 19 63) rfl rfl ?_
          refine pw_ 6 74 (tl_ 19 127) rfl rfl ?_
          refine pu_ 7 75 (tl_ 19 255) rfl rfl ?_
          refine pu_ 8 76 (tl_ 19 511) rfl rfl ?_
          refine pu_ 9 77 (tl_ 19 1023) rfl rfl ?_
          refine pu_ 10 78 (tl_ 19 2047) rfl rfl ?_
          refine pu_ 11 79 (tl_ 19 4095) rfl rfl ?_
          refine pu_ 12 80 (tl_ 19 8191) rfl rfl ?_
          refine pu_ 13 81 (tl_ 19 16383) rfl rfl ?_
          refine pu_ 14 82 (tl_ 19 32767) rfl rfl ?_
          refine pu_ 15 83 (tl_ 19 65535) rfl rfl ?_
          refine pu_ 16 84 (tl_ 19 131071) rfl rfl ?_
          refine pw_ 17 85 (tl_ 19 262143) rfl rfl ?_
          refine pw_ 18 2 (tl_ 19 524287) rfl rfl ?_
          refine done_ (done_of HT_.out (g0_)) ?_
          try go_wp2
          go_ret
          exact ⟨g4_, laws_FnKeepsOf.calls_q0⟩
     ·replace c23 := Bool.eq_false_iff.mpr c23
      subst c23
      replace H := ifn_ H
      by_cases c50 : (t765.length : Int) = 0
      ·rw [if_pos c50] at H
       have c50b0 : ((t765.length : Int) == 0) = true := beq_iff_eq.mpr c50
       have c50b1 : ((t765.length : Int) != 0) = false := bne_eq_false_iff_eq.mpr c50
       clear c50
       obtain ⟨t774, A51, H⟩ := bind_ H
       obtain rfl := Option.some.inj H
       obtain ⟨Ao52, co52, eo52⟩ := Kd.R_slice HO_5.out
       subst eo52
       go_wp2_with (first | (go_at_call 17; (with_reducible refine (laws_alive.calls kj5  t774 _ A51.out).mono ?_); rintro e w53 ⟨rfl, hb⟩; replace HO_5 := Aside0.mk (Kd.R_below (uf1_ HO_5) hb); replace HO_765000 := Aside0.mk (Kd.R_below (uf1_ HO_765000) hb); replace HO_765001 := Aside0.mk (Kd.V_below (uf5_ HO_765001) hb); replace BK764 := bb_ BK764 hb; replace HB := Aside0.mk (below_step (laws_FnKeepsOf.calls_q0) hb); (try clear hb); (try clear hk hi)))
       go_ret
       exact ⟨g4_, laws_FnKeepsOf.calls_q0⟩
      ·rw [if_neg c50] at H
       have c50b0 : ((t765.length : Int) == 0) = false := beq_eq_false_iff_ne.mpr c50
       have c50b1 : ((t765.length : Int) != 0) = true := bne_iff_ne.mpr c50
       have c50b2 : ¬ (t765 = []) := fun h_ => c50 (g46_)
       obtain rfl := Option.some.inj H
       obtain ⟨Ao54, co54, eo54⟩ := Kd.R_slice HO_5.out
       subst eo54
       go_wp2
       go_ret
       exact ⟨g4_, laws_FnKeepsOf.calls_q0⟩
def laws_FnKeepsOf.Pure : Prop := ∀ (l0 : List Int), l0.length ≤ maxLen → l0.length * 1 ≤ 140737488351232 → (∀ x ∈ l0, (Lit.int .u8 x).wf = true) → ∃ k, laws_FnKeepsOf.f k l0 = some true
theorem laws_FnKeepsOf.walk (P : laws_FnKeepsOf.Pure) (a0 : Option Addr) (len0 cap0 : Nat) (z0 : List Int) (w : World) (w0 : (a0 = none ∧ len0 = 0 ∧ cap0 = 0 ∧ z0 = []) ∨ ∃ x, a0 = some x ∧ len0 ≤ cap0 ∧ cap0 ≤ maxLen ∧ z0.length = cap0 ∧ (∀ i, i < z0.length → w.cell? (x.add i) = some (.int .u8 (z0.getD i 0))) ∧ ∀ n ∈ z0, (Lit.int .u8 n).wf = true) (y0 : len0 * 1 ≤ 140737488351232) :
  Calls Try.prog 7 #[.slice a0 len0 cap0] w fun e w' => e = .returned (.bool true) ∧ Below w.heap.size w w' := by
 obtain ⟨l0, rfl, hr0, hm0, hw0, hc0⟩ := ReadsInt.ofRowC w0
 obtain ⟨k, h⟩ := P l0 hm0 y0 hw0
 refine (laws_FnKeepsOf.calls k _ _ l0 true w (Kd.C_of_reads (d := (0 : Int)) (h1 := fun _ => rfl) hr0) hc0 h).mono ?_
 rintro e w' ⟨rfl, hd⟩
 exact ⟨rfl, hd⟩
end Go.Proofs.Ytigpmfoagkhaeaa.PU
namespace Go.Proofs.Ytigpmfoagkhaeaa.Qh
open Go.RowKit Go.Proofs.YtigpmfoagkhaeaaW.PrintWords Go.Proofs.YtigpmfoagkhaeaaW.PrintMore
set_option linter.unusedVariables false
set_option linter.unusedSimpArgs false
theorem w64 {n : Int} (h1 : -9223372036854775808 ≤ n) (h2 : n ≤ 9223372036854775807) : wrap64 n = n := by unfold wrap64; omega
theorem wsucc {i n : Nat} (h : i < n) (hn : n ≤ 4611686018427387904) : wrap64 ((i : Int) + 1) = ((i + 1 : Nat) : Int) := by unfold wrap64; omega
section
variable {α β : Type} {r : α}
theorem evPos {c : Prop} [Decidable c] {g f : Nat → Option α} (h : c) (k : Ev g r) : Ev (fun n => if c then g n else f n) r := by
  simp only [if_pos h]; exact k
theorem evNeg {c : Prop} [Decidable c] {g f : Nat → Option α} (h : ¬ c) (k : Ev f r) : Ev (fun n => if c then g n else f n) r := by
  simp only [if_neg h]; exact k
theorem evBind0 {g : Option β} {f : Nat → β → Option α} {a : β} (h : g = some a) (k : Ev (fun n => f n a) r) : Ev (fun n => g.bind (f n)) r := by
  subst h; exact k
theorem evEq {g : Nat → Option α} {q : α} (h : Ev g q) (e : q = r) : Ev g r := e ▸ h
end
theorem rd_get (xs : List Int) (i : Nat) (h : i < xs.length) : rd xs (i : Int) = xs[i] := by
  simp [rd, List.getD_eq_getElem?_getD, List.getElem?_eq_getElem h]
theorem getD_set {α : Type} (xs : List α) (d v : α) (i j : Nat) (h : i < xs.length) : (xs.set i v).getD j d = if i = j then v else xs.getD j d := by
  simp only [List.getD_eq_getElem?_getD, List.getElem?_set]
  by_cases e : i = j
  · subst e; simp [h]
  · simp [e]
theorem getD_mem {α : Type} (d : α) (xs : List α) (i : Nat) (h : i < xs.length) : xs.getD i d ∈ xs := by
  simp [List.getD_eq_getElem?_getD, List.getElem?_eq_getElem h]
def EvB (g : Nat → Option Bool) (p : Prop) : Prop := ∃ b, (b = true ↔ p) ∧ Ev g b
section
variable {g f : Nat → Option Bool} {p q : Prop}
theorem EvB.congr (h : EvB g p) (e : p ↔ q) : EvB g q := by obtain ⟨b, h1, h2⟩ := h; exact ⟨b, h1.trans e, h2⟩
theorem EvB.tt (h : p) : EvB (fun _ => some true) p := ⟨true, by simp [h], Ev.now _⟩
theorem EvB.ff (h : ¬ p) : EvB (fun _ => some false) p := ⟨false, by simp [h], Ev.now _⟩
theorem EvB.pos {c : Prop} [Decidable c] (h : c) (k : EvB g p) : EvB (fun n => if c then g n else f n) p := by obtain ⟨b, h1, h2⟩ := k; exact ⟨b, h1, evPos h h2⟩
theorem EvB.neg {c : Prop} [Decidable c] (h : ¬ c) (k : EvB f p) : EvB (fun n => if c then g n else f n) p := by obtain ⟨b, h1, h2⟩ := k; exact ⟨b, h1, evNeg h h2⟩
theorem EvB.step {g f : Nat → Option Bool} (h : ∀ k, g (k + 1) = f k) (k : EvB f p) : EvB g p := by obtain ⟨b, h1, h2⟩ := k; exact ⟨b, h1, Ev.step h h2⟩
theorem EvB.bind {β : Type} {g : Nat → Option β} {f : Nat → β → Option Bool} {a : β} (h : Ev g a) (k : EvB (fun n => f n a) p) : EvB (fun n => (g n).bind (f n)) p := by obtain ⟨b, h1, h2⟩ := k; exact ⟨b, h1, Ev.bind h h2⟩
theorem EvB.bind0 {β : Type} {g : Option β} {f : Nat → β → Option Bool} {a : β} (h : g = some a) (k : EvB (fun n => f n a) p) : EvB (fun n => g.bind (f n)) p := by obtain ⟨b, h1, h2⟩ := k; exact ⟨b, h1, evBind0 h h2⟩
theorem EvB.yes (h : EvB g p) (hp : p) : Ev g true := by obtain ⟨b, h1, h2⟩ := h; rw [h1.2 hp] at h2; exact h2
theorem EvB.no (h : EvB g p) (hp : ¬ p) : Ev g false := by
  obtain ⟨b, h1, h2⟩ := h
  have : b = false := by cases b with
    | true => exact absurd (h1.1 rfl) hp
    | false => rfl
  rw [this] at h2; exact h2
end
end Go.Proofs.Ytigpmfoagkhaeaa.Qh
