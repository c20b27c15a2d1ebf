/- FnGetsOf: for every input the law holds. No condition. -/
import Derived.Test.YtigpmfoagkhaeaaZFnGetsOf1
import Derived.Test.YtigpmfoagkhaeaaZFnGetsOf2
import Derived.Test.YtigpmfoagkhaeaaZFnGetsOf3
import Derived.Test.YtigpmfoagkhaeaaZFnGetsOf4
import Derived.Below
import Derived.Deep.Draws
import Derived.Deep.AppendLies
import Derived.Maps.AppendAt
import Derived.OwnWalk
import Derived.Laws.BytesArg
import Derived.Laws.MakeOwn
import Derived.Laws.OwnMore
import Derived.Deep.OwnRows
import Derived.Tactics
import Derived.Lib.ConvBytes
import Derived.Laws.Slices
import Derived.WalkKit
import Derived.KernelRfl
import Derived.RowKit3
import Derived.Deep.LoopGhost
import Derived.Deep.QuietTactic
import Derived.BigQuiet
import Derived.WideLaws
import Derived.Deep.DeepCutAuto
import Derived.Deep.CutBlock
import Derived.Deep.RegionHeld3
import Derived.Laws.Rows
import Derived.Lib.AppendStr
import Derived.ArgAppend
import Derived.Laws.IdiomCopy
import Derived.RowKit
import Derived.OrdersHeld
import Derived.Laws.BitsLemmas
import Derived.Laws.StructEq
import Derived.Test.YtigpmfoagkhaeaaProg
namespace Go.Proofs.Ytigpmfoagkhaeaa.PU
open Go.RowKit Go.Proofs.YtigpmfoagkhaeaaW.PrintWords Go.Proofs.YtigpmfoagkhaeaaW.PrintLast Go.Proofs.YtigpmfoagkhaeaaW.PrintMore Go.Proofs.Ytigpmfoagkhaeaa.Qd
attribute [local go_sem] max2_int min2_int max_two min_two max_three min_three max_four min_four   -- for this text's walks alone
set_option linter.unusedVariables false
set_option linter.unusedSimpArgs false
mutual
def spec_GetsOf.l0 : Nat → List (S36) → List (S36) → List Int → Int → List Int → List (List Int) → Option ((List (S36)) × Bool)
 | 0, _, _, _, _, _, _ => none
 | k + 1, x1, x6, x7, x8, x600000, x600001 => if x8 < (x1.length : Int) then (if 0 ≤ x8 then (if x8 < (x600000.length : Int) then (spec_GetsOf.l1 k x1 x6 x7 x8 0 x600000 x600001 (rd x600000 x8) 1) else (none)) else (none)) else (some (x6, true))
def spec_GetsOf.l1 : Nat → List (S36) → List (S36) → List Int → Int → Int → List Int → List (List Int) → Int → Int → Option ((List (S36)) × Bool)
 | 0, _, _, _, _, _, _, _, _, _ => none
 | k + 1, x1, x6, x7, x8, x10, x600000, x600001, x609000, x609001 => if x10 < (x1.length : Int) then (if 0 ≤ x10 then (if x10 < (x7.length : Int) then (if (rd x7 x10) = 0 then (spec_GetsOf.l1 k x1 x6 x7 x8 (wrap64 (x10 + 1)) x600000 x600001 x609000 x609001) else (if x10 < (x600001.length : Int) then (if 0 ≤ x8 then (if x8 < ((rd_L2 x600001 x10).length : Int) then ((spec_FracOf.f k (rd (rd_L2 x600001 x10) x8) (rd x7 x10)).bind fun bt616 => ((spec_TimesOf.f k ((rd_T36 x1 x10).f0) ((rd_T36 x1 x10).f1) bt616.1 bt616.2.1).bind fun bt621 => ((spec_PlusOf.f k x609000 x609001 bt621.1 bt621.2.1).bind fun bt625 => (if bt621.2.2 = true then (if bt625.2.2 = true then (spec_GetsOf.l1 k x1 x6 x7 x8 (wrap64 (x10 + 1)) x600000 x600001 bt625.1 bt625.2.1) else (some ((([] : List (S36))), false))) else (some ((([] : List (S36))), false)))))) else (none)) else (none)) else (none))) else (none)) else (none)) else (if x6.length < 8796093022208 then (spec_GetsOf.l0 k x1 (x6 ++ [(⟨x609000, x609001⟩ : S36)]) x7 (wrap64 (x8 + 1)) x600000 x600001) else (none))
end
def spec_GetsOf.f (k : Nat) (l0_0 : List Int) (l0_1 : List (List Int)) (l1 : List (S36)) : Option ((List (S36)) × Bool) := (some (([] : List (S36)) : List (S36))).bind fun y600 => ((spec_PaysOk.f k l0_0 l0_1 l1).bind fun t603 => (if t603 = true then ((spec_OwesOf.f k l0_0 l0_1).bind fun t604 => (spec_GetsOf.l0 k l1 y600 t604 0 l0_0 l0_1)) else (some (y600, false))))
theorem spec_GetsOf.mono_l : ∀ k, (∀ y0 y1 y2 y3 y4 y5, LeO (spec_GetsOf.l0 k y0 y1 y2 y3 y4 y5) (spec_GetsOf.l0 (k + 1) y0 y1 y2 y3 y4 y5)) ∧ (∀ y0 y1 y2 y3 y4 y5 y6 y7 y8, LeO (spec_GetsOf.l1 k y0 y1 y2 y3 y4 y5 y6 y7 y8) (spec_GetsOf.l1 (k + 1) y0 y1 y2 y3 y4 y5 y6 y7 y8))
 | 0 => ⟨fun _ _ _ _ _ _ r h => by simp [spec_GetsOf.l0] at h, fun _ _ _ _ _ _ _ _ _ r h => by simp [spec_GetsOf.l1] at h⟩
 | k + 1 => by
  obtain ⟨ih0, ih1⟩ := spec_GetsOf.mono_l k
  refine ⟨?_, ?_⟩
  ·intro y0 y1 y2 y3 y4 y5
   unfold spec_GetsOf.l0
   repeat' first
   | (with_reducible exact ih0 _ _ _ _ _ _)
   | (with_reducible exact ih1 _ _ _ _ _ _ _ _ _)
   | (with_reducible exact spec_FracOf.mono _ _ _)
   | (with_reducible exact spec_OwesOf.mono _ _ _)
   | (with_reducible exact spec_PaysOk.mono _ _ _ _)
   | (with_reducible exact spec_PlusOf.mono _ _ _ _ _)
   | (with_reducible exact spec_TimesOf.mono _ _ _ _ _)
   | (with_reducible exact LeO.refl _)
   | (with_reducible exact LeO.none _)
   | (with_reducible refine LeO.ite ?_ ?_)
   | (with_reducible refine LeO.bind ?_ (fun _ => ?_))
   | exact ih0 _ _ _ _ _ _
   | exact ih1 _ _ _ _ _ _ _ _ _
   | exact spec_FracOf.mono _ _ _
   | exact spec_OwesOf.mono _ _ _
   | exact spec_PaysOk.mono _ _ _ _
   | exact spec_PlusOf.mono _ _ _ _ _
   | exact spec_TimesOf.mono _ _ _ _ _
   | exact LeO.none _
   | refine LeO.ite ?_ ?_
   | refine LeO.bind ?_ (fun _ => ?_)
  ·intro y0 y1 y2 y3 y4 y5 y6 y7 y8
   unfold spec_GetsOf.l1
   repeat' first
   | (with_reducible exact ih0 _ _ _ _ _ _)
   | (with_reducible exact ih1 _ _ _ _ _ _ _ _ _)
   | (with_reducible exact spec_FracOf.mono _ _ _)
   | (with_reducible exact spec_OwesOf.mono _ _ _)
   | (with_reducible exact spec_PaysOk.mono _ _ _ _)
   | (with_reducible exact spec_PlusOf.mono _ _ _ _ _)
   | (with_reducible exact spec_TimesOf.mono _ _ _ _ _)
   | (with_reducible exact LeO.refl _)
   | (with_reducible exact LeO.none _)
   | (with_reducible refine LeO.ite ?_ ?_)
   | (with_reducible refine LeO.bind ?_ (fun _ => ?_))
   | exact ih0 _ _ _ _ _ _
   | exact ih1 _ _ _ _ _ _ _ _ _
   | exact spec_FracOf.mono _ _ _
   | exact spec_OwesOf.mono _ _ _
   | exact spec_PaysOk.mono _ _ _ _
   | exact spec_PlusOf.mono _ _ _ _ _
   | exact spec_TimesOf.mono _ _ _ _ _
   | exact LeO.none _
   | refine LeO.ite ?_ ?_
   | refine LeO.bind ?_ (fun _ => ?_)
theorem spec_GetsOf.mono : ∀ a0 a1 a2 k, LeO (spec_GetsOf.f k a0 a1 a2) (spec_GetsOf.f (k + 1) a0 a1 a2) := by
 intro a0 a1 a2 k
 obtain ⟨ih0, ih1⟩ := spec_GetsOf.mono_l k
 unfold spec_GetsOf.f
 repeat' first
   | (with_reducible exact ih0 _ _ _ _ _ _)
   | (with_reducible exact ih1 _ _ _ _ _ _ _ _ _)
   | (with_reducible exact spec_FracOf.mono _ _ _)
   | (with_reducible exact spec_OwesOf.mono _ _ _)
   | (with_reducible exact spec_PaysOk.mono _ _ _ _)
   | (with_reducible exact spec_PlusOf.mono _ _ _ _ _)
   | (with_reducible exact spec_TimesOf.mono _ _ _ _ _)
   | (with_reducible exact LeO.refl _)
   | (with_reducible exact LeO.none _)
   | (with_reducible refine LeO.ite ?_ ?_)
   | (with_reducible refine LeO.bind ?_ (fun _ => ?_))
   | exact ih0 _ _ _ _ _ _
   | exact ih1 _ _ _ _ _ _ _ _ _
   | exact spec_FracOf.mono _ _ _
   | exact spec_OwesOf.mono _ _ _
   | exact spec_PaysOk.mono _ _ _ _
   | exact spec_PlusOf.mono _ _ _ _ _
   | exact spec_TimesOf.mono _ _ _ _ _
   | exact LeO.none _
   | refine LeO.ite ?_ ?_
   | refine LeO.bind ?_ (fun _ => ?_)
def spec_GetsOf.T13 : Bool × List (List Nat × List Nat) := (true, [([], []), ([0], [0]), ([], []), ([1, 2], [1, 2]), ([3], [3]), ([], []), ([4, 5], [4, 5]), ([6], [6]), ([], []), ([], []), ([8, 9], [8, 9]), ([10], [10]), ([7, 11], [7, 11]), ([12], [12]), ([13], [13]), ([13], [13]), ([], []), ([16, 14, 12, 0, 1, 2, 3, 4, 5, 6, 7, 8, 9, 10, 11, 12, 13, 14, 16], [14, 16]), ([15, 17, 0, 1, 2, 3, 4, 5, 6, 7, 8, 9, 10, 11, 12, 13, 14, 15, 16, 17], [15])])
def spec_GetsOf.B13 : List Nat := [0, 1, 0, 7, 15, 0, 63, 127, 0, 0, 768, 1792, 4095, 8191, 16383, 16383, 0, 98303, 262143]
theorem spec_GetsOf.tab13 : rtab .any (opsOf Try.f30 13) = spec_GetsOf.T13 := by kernel_rfl
theorem spec_GetsOf.bits13 : waitsOk spec_GetsOf.T13.2 spec_GetsOf.B13 = true := by kernel_rfl
def spec_GetsOf.T14 : Bool × List (List Nat × List Nat) := (true, [([], []), ([], []), ([0, 1], [0, 1]), ([2], [2]), ([], []), ([3, 4], [3, 4]), ([5], [5]), ([6], [6]), ([6], [6]), ([], []), ([9, 7, 5, 0, 1, 2, 3, 4, 5, 6, 7, 9], [7, 9]), ([8, 10, 0, 1, 2, 3, 4, 5, 6, 7, 8, 9, 10], [8])])
def spec_GetsOf.B14 : List Nat := [0, 0, 3, 7, 0, 31, 63, 127, 127, 0, 767, 2047]
theorem spec_GetsOf.tab14 : rtab .any (opsOf Try.f30 14) = spec_GetsOf.T14 := by kernel_rfl
theorem spec_GetsOf.bits14 : waitsOk spec_GetsOf.T14.2 spec_GetsOf.B14 = true := by kernel_rfl
theorem spec_GetsOf.calls_q0 {p : Prop} (h : p := by repeat (first | (with_reducible first | exact HB.out | apply below_alloc | apply pw_below_drewN | apply below_drew1 | refine below_set ?_ GE599.out | refine below_set ?_ GE608.out | refine below_set ?_ GE619.out | refine below_set ?_ GE624.out | refine below_set ?_ GE628.out) | exact HB.out)) : p := h
set_option maxHeartbeats 8000000 in
set_option maxRecDepth 100000 in
theorem spec_GetsOf.calls (k : Nat) (A0_0 : Option Addr) (c0_0 : Nat) (l0_0 : List Int) (A0_1 : Option Addr) (c0_1 : Nat) (l0_1 : List (List Int)) (A1 : Option Addr) (c1 : Nat) (l1 : List (S36)) (r1 : List (S36)) (r2 : Bool) (w : World) (hr0_0 : Kd.C (Kd.int .i64) w A0_0 l0_0.length l0_0) (hc0_0 : l0_0.length ≤ c0_0) (hr0_1 : Kd.C (Kd.slice 3 (Kd.int .i64)) w A0_1 l0_1.length l0_1) (hc0_1 : l0_1.length ≤ c0_1) (hr1 : Kd.C k36 w A1 l1.length l1) (hc1 : l1.length ≤ c1) (h : spec_GetsOf.f k l0_0 l0_1 l1 = some (r1, r2)) :
  Calls Try.prog 30 #[.agg #[.slice A0_0 l0_0.length c0_0, .slice A0_1 l0_1.length c0_1], .slice A1 l1.length c1] w fun e w' => ∃ v0_ : Value, e = .returned (.tuple #[v0_, .bool r2]) ∧ Kd.R k36 36 w' w.heap.size (fun _ => True) v0_ r1 ∧ Below w.heap.size w w' := by
 have hu26 := Try.underlying26
 have hu36 := Try.underlying36
 have HR0_0 := Aside0.mk hr0_0
 have HC0_0 := Aside0.mk hc0_0
 clear hr0_0 hc0_0
 have HR0_1 := Aside0.mk hr0_1
 have HC0_1 := Aside0.mk hc0_1
 clear hr0_1 hc0_1
 have HR1 := Aside0.mk hr1
 have HC1 := Aside0.mk hc1
 clear hr1 hc1
 have HB := Aside0.mk (Below.refl w.heap.size w)
 have H : ((some (([] : List (S36)) : List (S36))).bind fun y600 => ((spec_PaysOk.f k l0_0 l0_1 l1).bind fun t603 => (if t603 = true then ((spec_OwesOf.f k l0_0 l0_1).bind fun t604 => (spec_GetsOf.l0 k l1 y600 t604 0 l0_0 l0_1)) else (some (y600, false))))) = some (r1, r2) := h
 clear h
 obtain ⟨y600, hy600⟩ : ∃ y_ : List (S36), y_ = (([] : List (S36))) := ⟨_, rfl⟩
 replace H : ((spec_PaysOk.f k l0_0 l0_1 l1).bind fun t603 => (if t603 = true then ((spec_OwesOf.f k l0_0 l0_1).bind fun t604 => (spec_GetsOf.l0 k l1 y600 t604 0 l0_0 l0_1)) else (some (y600, false)))) = some (r1, r2) := by first | (rw [hy600]; with_reducible exact H) | (have H2_ := (Option.bind_some _ _).symm.trans H; rw [hy600]; with_reducible exact H2_) | (have H2_ := (Option.bind_some _ _).symm.trans H; with_reducible exact H2_) | with_reducible exact H | (rw [hy600]; exact H) | exact H
 have Ny600 := Aside0.mk hy600
 clear hy600
 obtain ⟨t603, A3, H⟩ := bind_ H
 by_cases c4 : t603 = true
 ·subst c4
  replace H := ifp_ H
  obtain ⟨t604, A5, H⟩ := bind_ H
  have H' := Aside0.mk H
  clear H
  go_enter Try.func30, Try.ntmps30
  go_wp2_with (first | ((with_reducible refine gate_dst (N := 2) rfl ?_); refine bx_ (N := 2) #[.slice A0_0 l0_0.length c0_0, .slice A0_1 l0_1.length c0_1] 26 ?_; intro gb599 hg w6 hbox hb; have BK599 := Aside0.mk (hbox); have GW599 := Aside0.mk ((g6_ : w.heap.size ≤ gb599)); have GE599 := Aside0.mk ((g6_ : w.heap.size ≤ gb599)); replace HB := Aside0.mk (below_step (spec_GetsOf.calls_q0) hb); clear hb hbox hg) | ((with_reducible refine gate_dst (N := 17) rfl ?_); refine Kd.R_lit k36 _ 36 ?hg (N := 17) ?hd (xs := ([] : List (S36))) (inner := []) (ok := fun _ => True) (okp := fun _ => True) ?hr ?hp (fun _ hk => hk) trivial (Below.refl _ _) (Nat.le_refl _) (by simp) ?_; (case hd => rfl); (case hg => rfl); (case hr => first | (go_simp; done) | (go_simp; rfl)); (case hp => exact (Reps.none _ _)); intro v601 w7 ho8 hb hg_ hnew_; clear hg_ hnew_; (first | rw [← Ny600.out] at ho8 | (simp only [Int.reduceToNat] at ho8; rw [← Ny600.out] at ho8)); have HO602 := Aside0.mk (Kd.R_lower ho8 (below_size (spec_GetsOf.calls_q0))); replace BK599 := Aside0.mk (blk_below (g := gb599) (o := .cells #[.slice A0_0 l0_0.length c0_0, .slice A0_1 l0_1.length c0_1] 26 (0, 0)) (uf0_ BK599) hb); replace HB := Aside0.mk (below_step (spec_GetsOf.calls_q0) hb); clear hb ho8; obtain ⟨hcz9_0, hcz9_1, hfz9_0, hfz9_1⟩ := blk2_ BK599) | ((with_reducible refine gate_callee (f := 21) rfl ?_); refine goesL_ (some 20) rfl rfl Try.func21 k_ rfl #[.agg #[.slice A0_0 l0_0.length c0_0, .slice A0_1 l0_1.length c0_1], .slice A1 l1.length c1] rfl (g2_) ?_; (with_reducible refine (spec_PaysOk.calls k _ _ l0_0 _ _ l0_1 _ _ l1 true _ ?side1 ?side2 ?side3 ?side4 ?side5 ?side6 A3.out).mono ?_); (case side1 => exact uf4_ HR0_0); (case side2 => exact HC0_0.out); (case side3 => exact uf4_ HR0_1); (case side4 => exact HC0_1.out); (case side5 => exact uf4_ HR1); (case side6 => exact HC1.out); rintro e w10 ⟨rfl, hb⟩; refine ⟨_, rfl, ?_⟩; replace HO602 := Aside0.mk (Kd.R_below (uf1_ HO602) hb); replace BK599 := Aside0.mk (blk_below (g := gb599) (o := .cells #[.slice A0_0 l0_0.length c0_0, .slice A0_1 l0_1.length c0_1] 26 (0, 0)) (uf0_ BK599) hb); replace HB := Aside0.mk (below_step (spec_GetsOf.calls_q0) hb); (try clear hb); (try clear hk hi); obtain ⟨hcz11_0, hcz11_1, hfz11_0, hfz11_1⟩ := blk2_ BK599) | ((with_reducible refine gate_callee (f := 62) rfl ?_); refine goesL_ (some 24) rfl rfl Try.func62 k_ rfl #[.agg #[.slice A0_0 l0_0.length c0_0, .slice A0_1 l0_1.length c0_1]] rfl (g2_) ?_; (with_reducible refine (spec_OwesOf.calls k _ _ l0_0 _ _ l0_1 t604 _ ?side1 ?side2 ?side3 ?side4 A5.out).mono ?_); (case side1 => exact uf4_ HR0_0); (case side2 => exact HC0_0.out); (case side3 => exact uf4_ HR0_1); (case side4 => exact HC0_1.out); rintro e w12 ⟨v605, rfl, ho0, hb⟩; refine ⟨_, rfl, ?_⟩; replace HO602 := Aside0.mk (Kd.R_below (uf1_ HO602) hb); have HO606 := Aside0.mk (Kd.R_lower ho0 (below_size (spec_GetsOf.calls_q0))); replace BK599 := Aside0.mk (blk_below (g := gb599) (o := .cells #[.slice A0_0 l0_0.length c0_0, .slice A0_1 l0_1.length c0_1] 26 (0, 0)) (uf0_ BK599) hb); replace HB := Aside0.mk (below_step (spec_GetsOf.calls_q0) hb); (try clear hb); (try clear hk hi); (try clear ho0)))
  go_loopg [6, 8] k (fun kq v6 v8 w' => ∃ (x6_1 : List (S36)) (x8_1 : Int), v8 = .int .i64 x8_1 ∧ Aside0 (spec_GetsOf.l0 kq l1 x6_1 t604 x8_1 l0_0 l0_1 = some (r1, r2)) ∧ Aside0 (kq ≤ k) ∧ Aside0 (Kd.R k36 36 w' w.heap.size (fun _ => True) v6 x6_1) ∧ Aside0 (Kd.R (Kd.int .i64) 3 w' w.heap.size (fun _ => True) v605 t604) ∧ Aside0 (w'.heap[gb599]? = some (.cells #[(.slice A0_0 l0_0.length c0_0), (.slice A0_1 l0_1.length c0_1)] 26 (0, 0))) ∧ Aside0 (Below w.heap.size w w'))
  case atStart => exact ⟨(y600), (0), (g3_), H', ⟨Nat.le_refl _⟩, ⟨uf1_ HO602⟩, ⟨uf1_ HO606⟩, ⟨uf0_ BK599⟩, ⟨spec_GetsOf.calls_q0⟩⟩
  case round =>
   clear H'
   try clear c1
   try clear c2
   try clear p2
   try clear c3
   try clear c4
   try clear c6
   try clear hcz11_0
   try clear hcz11_1
   try clear hcz9_0
   try clear hcz9_1
   try clear hfz11_0
   try clear hfz11_1
   try clear hfz9_0
   try clear hfz9_1
   obtain ⟨x6_1, x8_1, rfl, HA, HK1, HO_6, HO_7, BK599, HB⟩ := hrel
   cases gk with
   | zero => exact absurd HA.out (by simp [spec_GetsOf.l0])
   | succ k1 =>
    have H := HA.out
    clear HA
    simp only [spec_GetsOf.l0] at H
    by_cases c13 : x8_1 < (l1.length : Int)
    ·rw [if_pos c13] at H
     have c13b0 := decide_eq_true c13
     clear c13
     by_cases c14 : 0 ≤ x8_1
     ·rw [if_pos c14] at H
      have c14b0 := decide_eq_true c14
      clear c14
      by_cases c15 : x8_1 < (l0_0.length : Int)
      ·rw [if_pos c15] at H
       have c15b0 := decide_eq_true c15
       clear c15
       have H' := Aside0.mk H
       clear H
       obtain ⟨hcz16_0, hcz16_1, hfz16_0, hfz16_1⟩ := blk2_ BK599
       have p607 : 0 ≤ (x8_1 : Int) := of_decide_eq_true (g1_)
       have q607 : x8_1 < (l0_0.length : Int) := of_decide_eq_true (g1_)
       obtain ⟨ad607, e607, hx607_0⟩ := Kd.at_int HR0_0.out x8_1 p607 q607
       cases e607
       replace hx607_0 := cl_ HB hx607_0
       replace p607 := eq_true p607
       replace q607 := eq_true q607
       go_wp2_with (first | ((with_reducible refine gate_dst (N := 9) rfl ?_); refine bx_ (N := 9) #[.int .i64 0, .int .i64 0] 36 ?_; intro gb608 hg w17 hbox hb; replace HO_6 := Aside0.mk (Kd.R_below (Kd.R_elderB (uf1_ HO_6) gb608 (Nat.le_of_eq hg.symm)) hb); replace HO_7 := Aside0.mk (Kd.R_below (uf1_ HO_7) hb); have BK608 := Aside0.mk (hbox); have GW608 := Aside0.mk ((g6_ : w.heap.size ≤ gb608)); have GE608 := Aside0.mk ((g6_ : w.heap.size ≤ gb608)); replace HB := Aside0.mk (below_step (spec_GetsOf.calls_q0) hb); have NB599_608 := Aside0.mk ((by rw [hg]; exact Nat.ne_of_lt (blk_lt (g := gb599) (o := .cells #[.slice (some ad607) l0_0.length c0_0, .slice A0_1 l0_1.length c0_1] 26 (0, 0)) (uf0_ BK599)) : gb599 ≠ gb608)); have NB608_599 := Aside0.mk ((by rw [hg]; exact Nat.ne_of_gt (blk_lt (g := gb599) (o := .cells #[.slice (some ad607) l0_0.length c0_0, .slice A0_1 l0_1.length c0_1] 26 (0, 0)) (uf0_ BK599)) : gb608 ≠ gb599)); replace BK599 := Aside0.mk (blk_below (g := gb599) (o := .cells #[.slice (some ad607) l0_0.length c0_0, .slice A0_1 l0_1.length c0_1] 26 (0, 0)) (uf0_ BK599) hb); clear hb hbox hg; have hnb18 := NB608_599.out; have hnc18 := NB599_608.out; obtain ⟨hcz19_0, hcz19_1, hfz19_0, hfz19_1⟩ := blk2_ BK608))
       go_loopg [10] k1 (fun kq v10 w' => ∃ (x10_2 : Int) (x609000_2 : Int) (x609001_2 : Int), v10 = .int .i64 x10_2 ∧ Aside0 (spec_GetsOf.l1 kq l1 x6_1 t604 x8_1 x10_2 l0_0 l0_1 x609000_2 x609001_2 = some (r1, r2)) ∧ Aside0 (kq ≤ k1) ∧ Aside0 (Kd.R k36 36 w' w.heap.size (fun k_ => k_ ≠ gb608) u6 x6_1) ∧ Aside0 (Kd.R (Kd.int .i64) 3 w' w.heap.size (fun _ => True) v605 t604) ∧ Aside0 (w'.heap[gb599]? = some (.cells #[(.slice (some ad607) l0_0.length c0_0), (.slice A0_1 l0_1.length c0_1)] 26 (0, 0))) ∧ Aside0 (w'.heap[gb608]? = some (.cells #[.int .i64 x609000_2, .int .i64 x609001_2] 36 (0, 0))) ∧ Aside0 (Below w.heap.size w w'))
       case atStart => exact ⟨(0), (rd l0_0 x8_1), (1), (g3_), H', ⟨Nat.le_refl _⟩, ⟨by (with_reducible repeat (first | apply Kd.R_alloc | apply Kd.R_drewN | apply Kd.R_drew)); exact Kd.R_mono (Kd.R_far (p := ⟨gb608, 1, none⟩) (Kd.R_far (p := ⟨gb608, 0, none⟩) (Kd.R_mono HO_6.out (fun k_ hk => (⟨hk, hk.2⟩ : _ ∧ k_ ≠ gb608))) (fun _ hk => hk.2) (.int .i64 (rd l0_0 x8_1))) (fun _ hk => hk.2) (.int .i64 1)) (fun _ hk => hk.1.2)⟩, ⟨by (with_reducible repeat (first | apply Kd.R_alloc | apply Kd.R_drewN | apply Kd.R_drew)); exact Kd.R_mono (Kd.R_far (p := ⟨gb608, 1, none⟩) (Kd.R_far (p := ⟨gb608, 0, none⟩) (Kd.R_types HO_7.out BK608.out (by decide)) (fun _ hk => hk.2) (.int .i64 (rd l0_0 x8_1))) (fun _ hk => hk.2) (.int .i64 1)) (fun _ hk => trivial)⟩, ⟨by (with_reducible repeat (first | refine blk_drewN ?_ _ | refine blk_drew ?_ | refine blk_alloc ?_ _)); refine blk_far ?_ NB599_608.out _; (with_reducible repeat (first | refine blk_drewN ?_ _ | refine blk_drew ?_ | refine blk_alloc ?_ _)); refine blk_far ?_ NB599_608.out _; (with_reducible repeat (first | refine blk_drewN ?_ _ | refine blk_drew ?_ | refine blk_alloc ?_ _)); exact BK599.out⟩, ⟨by (with_reducible repeat (first | refine blk_drewN ?_ _ | refine blk_drew ?_ | refine blk_alloc ?_ _)); refine blk_put (cs := #[.int .i64 (rd l0_0 x8_1), .int .i64 0]) ?_ 1 _ rfl; (with_reducible repeat (first | refine blk_drewN ?_ _ | refine blk_drew ?_ | refine blk_alloc ?_ _)); refine blk_put (cs := #[.int .i64 0, .int .i64 0]) ?_ 0 _ rfl; (with_reducible repeat (first | refine blk_drewN ?_ _ | refine blk_drew ?_ | refine blk_alloc ?_ _)); exact BK608.out⟩, ⟨spec_GetsOf.calls_q0⟩⟩
       case round =>
        clear H'
        try clear c1
        try clear c2
        try clear p2
        try clear c3
        try clear c4
        try clear c6
        try clear p6
        try clear q6
        try clear hx6
        try clear c13
        try clear c13b0
        try clear c14
        try clear c14b0
        try clear c15
        try clear c15b0
        try clear c18
        try clear hcz11_0
        try clear hcz11_1
        try clear hcz16_0
        try clear hcz16_1
        try clear hcz19_0
        try clear hcz19_1
        try clear hcz9_0
        try clear hcz9_1
        try clear hfz11_0
        try clear hfz11_1
        try clear hfz16_0
        try clear hfz16_1
        try clear hfz19_0
        try clear hfz19_1
        try clear hfz9_0
        try clear hfz9_1
        try clear hx607_0
        try clear p2
        try clear p607
        try clear q607
        obtain ⟨x10_2, x609000_2, x609001_2, rfl, HA, HK2, HO_6, HO_7, BK599, BK608, HB⟩ := hrel
        cases gk with
        | zero => exact absurd HA.out (by simp [spec_GetsOf.l1])
        | succ k2 =>
         have H := HA.out
         clear HA
         simp only [spec_GetsOf.l1] at H
         by_cases c20 : x10_2 < (l1.length : Int)
         ·rw [if_pos c20] at H
          have c20b0 := decide_eq_true c20
          clear c20
          by_cases c21 : 0 ≤ x10_2
          ·rw [if_pos c21] at H
           have c21b0 := decide_eq_true c21
           clear c21
           by_cases c22 : x10_2 < (t604.length : Int)
           ·rw [if_pos c22] at H
            have c22b0 := decide_eq_true c22
            clear c22
            by_cases c23 : (rd t604 x10_2) = 0
            ·rw [if_pos c23] at H
             have c23b0 : ((rd t604 x10_2) == 0) = true := beq_iff_eq.mpr c23
             have c23b1 : ((rd t604 x10_2) != 0) = false := bne_eq_false_iff_eq.mpr c23
             clear c23
             have H' := Aside0.mk H
             clear H
             obtain ⟨Ao24, co24, eo24⟩ := Kd.R_slice HO_7.out
             subst eo24
             have p612 : 0 ≤ (x10_2 : Int) := of_decide_eq_true (g1_)
             have q612 : x10_2 < (t604.length : Int) := of_decide_eq_true (g1_)
             obtain ⟨ad612, e612, hx612_0⟩ := Kd.at_int (Kd.R_reads' HO_7.out).2.2 x10_2 p612 q612
             cases e612
             replace p612 := eq_true p612
             replace q612 := eq_true q612
             go_wp2
             go_roundg k2
             case measure => have := HK1.out; have := HK2.out; omega
             case rel => exact ⟨(wrap64 (x10_2 + 1)), (x609000_2), (x609001_2), (g3_), H', ⟨g34_⟩, ⟨uf1_ HO_6⟩, ⟨uf1_ HO_7⟩, ⟨uf0_ BK599⟩, ⟨uf0_ BK608⟩, ⟨spec_GetsOf.calls_q0⟩⟩
            ·rw [if_neg c23] at H
             have c23b0 : ((rd t604 x10_2) == 0) = false := beq_eq_false_iff_ne.mpr c23
             have c23b1 : ((rd t604 x10_2) != 0) = true := bne_iff_ne.mpr c23
             by_cases c25 : x10_2 < (l0_1.length : Int)
             ·rw [if_pos c25] at H
              have c25b0 := decide_eq_true c25
              clear c25
              by_cases c26 : 0 ≤ x8_1
              ·rw [if_pos c26] at H
               have c26b0 := decide_eq_true c26
               clear c26
               by_cases c27 : x8_1 < ((rd_L2 l0_1 x10_2).length : Int)
               ·rw [if_pos c27] at H
                have c27b0 := decide_eq_true c27
                clear c27
                replace H := Option.bind_eq_some_iff.mp H
                obtain ⟨⟨t616, t617, t618⟩, A280, H⟩ := H
                replace H : ((spec_TimesOf.f k2 ((rd_T36 l1 x10_2).f0) ((rd_T36 l1 x10_2).f1) t616 t617).bind fun bt621 => ((spec_PlusOf.f k2 x609000_2 x609001_2 bt621.1 bt621.2.1).bind fun bt625 => (if bt621.2.2 = true then (if bt625.2.2 = true then (spec_GetsOf.l1 k2 l1 x6_1 t604 x8_1 (wrap64 (x10_2 + 1)) l0_0 l0_1 bt625.1 bt625.2.1) else (some ((([] : List (S36))), false))) else (some ((([] : List (S36))), false))))) = some (r1, r2) := H
                have A28 := Aside0.mk A280
                clear A280
                replace H := Option.bind_eq_some_iff.mp H
                obtain ⟨⟨t621, t622, t623⟩, A290, H⟩ := H
                replace H : ((spec_PlusOf.f k2 x609000_2 x609001_2 t621 t622).bind fun bt625 => (if t623 = true then (if bt625.2.2 = true then (spec_GetsOf.l1 k2 l1 x6_1 t604 x8_1 (wrap64 (x10_2 + 1)) l0_0 l0_1 bt625.1 bt625.2.1) else (some ((([] : List (S36))), false))) else (some ((([] : List (S36))), false)))) = some (r1, r2) := H
                have A29 := Aside0.mk A290
                clear A290
                replace H := Option.bind_eq_some_iff.mp H
                obtain ⟨⟨t625, t626, t627⟩, A300, H⟩ := H
                replace H : (if t623 = true then (if t627 = true then (spec_GetsOf.l1 k2 l1 x6_1 t604 x8_1 (wrap64 (x10_2 + 1)) l0_0 l0_1 t625 t626) else (some ((([] : List (S36))), false))) else (some ((([] : List (S36))), false))) = some (r1, r2) := H
                have A30 := Aside0.mk A300
                clear A300
                by_cases c31 : t623 = true
                ·subst c31
                 replace H := ifp_ H
                 by_cases c32 : t627 = true
                 ·subst c32
                  replace H := ifp_ H
                  have H' := Aside0.mk H
                  clear H
                  obtain ⟨Ao33, co33, eo33⟩ := Kd.R_slice HO_7.out
                  subst eo33
                  have p612 : 0 ≤ (x10_2 : Int) := of_decide_eq_true (g1_)
                  have q612 : x10_2 < (t604.length : Int) := of_decide_eq_true (g1_)
                  obtain ⟨ad612, e612, hx612_0⟩ := Kd.at_int (Kd.R_reads' HO_7.out).2.2 x10_2 p612 q612
                  cases e612
                  replace p612 := eq_true p612
                  replace q612 := eq_true q612
                  try go_wp2
                  replace HO_6 := Aside0.mk (Kd.R_drew HO_6.out)
                  replace HO_7 := Aside0.mk (Kd.R_drew HO_7.out)
                  replace BK599 := Aside0.mk (blk_drew BK599.out)
                  replace BK608 := Aside0.mk (blk_drew BK608.out)
                  replace HB := Aside0.mk (below_drew1 HB.out)
                  have p613 : 0 ≤ (x10_2 : Int) := of_decide_eq_true (g1_)
                  have q613 : x10_2 < (l0_1.length : Int) := of_decide_eq_true (g1_)
                  obtain ⟨ad613, A613_0, c613_0, e613, hx613_0, hl613_0, hi613_0⟩ := at_L2 HR0_1.out x10_2 p613 q613
                  have hw613_0 := hx613_0
                  cases e613
                  replace hx613_0 := cl_ HB hx613_0
                  have HR613_0 := Aside0.mk hi613_0
                  have HC613_0 := Aside0.mk hl613_0
                  clear hi613_0 hl613_0
                  replace p613 := eq_true p613
                  replace q613 := eq_true q613
                  have p614 : 0 ≤ (x8_1 : Int) := of_decide_eq_true (g1_)
                  have q614 : x8_1 < ((rd_L2 l0_1 x10_2).length : Int) := of_decide_eq_true (g1_)
                  obtain ⟨ad614, e614, hx614_0⟩ := Kd.at_int HR613_0.out x8_1 p614 q614
                  have hw614_0 := hx614_0
                  cases e614
                  replace hx614_0 := cl_ HB hx614_0
                  replace p614 := eq_true p614
                  replace q614 := eq_true q614
                  have p615 : 0 ≤ (x10_2 : Int) := of_decide_eq_true (g1_)
                  have q615 : x10_2 < (t604.length : Int) := of_decide_eq_true (g1_)
                  obtain ⟨ad615, e615, hx615_0⟩ := Kd.at_int (Kd.R_reads' HO_7.out).2.2 x10_2 p615 q615
                  obtain rfl : ad612 = ad615 := (by injection e615)
                  replace p615 := eq_true p615
                  replace q615 := eq_true q615
                  refine start_ (n := 19) (S := fun w' => w'.cell? ⟨gb599, 0, none⟩ = some (.slice (some ad607) l0_0.length c0_0) ∧ w'.cell? ⟨gb599, 1, none⟩ = some (.slice (some ad613) l0_1.length c0_1) ∧ w'.cell? (ad613.add (x10_2).toNat) = some (.slice (some ad614) (rd_L2 l0_1 x10_2).length c613_0) ∧ w'.cell? (ad614.add (x8_1).toNat) = some (.int .i64 (rd (rd_L2 l0_1 x10_2) x8_1)) ∧ w'.cell? (ad612.add (x10_2).toNat) = some (.int .i64 (rd t604 x10_2))) (ds := []) (tl_ 19 0) (g0_) rfl (g0_) ⟨(blk_cell BK599.out 0).trans rfl, (blk_cell BK599.out 1).trans rfl, ((cl_ HB hw613_0).trans rfl), ((cl_ HB hw614_0).trans rfl), hx615_0⟩ (fun hHeld => ?_); refine with_tabW spec_GetsOf.tab13 spec_GetsOf.bits13 (fun HT_ HW_ => ?_)
                  generalize wr.drew = w34 at HO_6 HO_7 BK599 BK608 HB HR613_0 hx613_0 hx614_0 hx615_0 hHeld ⊢
                  refine pw_ 0 49 (tl_ 19 1) rfl rfl ?_
                  refine pw_ 2 51 (tl_ 19 5) rfl rfl ?_
                  refine pw_ 5 54 (tl_ 19 37) rfl rfl ?_
                  refine pw_ 8 57 (tl_ 19 293) rfl rfl ?_
                  refine pw_ 9 58 (tl_ 19 805) rfl rfl ?_
                  refine pw_ 10 59 (tl_ 19 1829) rfl rfl ?_
                  refine tk5_ 1 50 (tl_ 19 1831) rfl rfl hHeld ?_
                  refine pw_ 3 52 (tl_ 19 1839) rfl rfl ?_
                  refine tk5_ 4 53 (tl_ 19 1855) rfl rfl hHeld ?_
                  refine pw_ 6 55 (tl_ 19 1919) rfl rfl ?_
                  refine tk5_ 7 56 (tl_ 19 2047) rfl rfl hHeld ?_
                  refine tk5_ 11 60 (tl_ 19 4095) rfl rfl hHeld ?_
                  refine join_ (σ := Nat) 2 (tl_ 19 131071) (fun s_ => [(61, .tuple #[.agg #[.int .i64 t616, .int .i64 t617], .bool t618]), (11, .pointer (some ⟨s_, 0, none⟩)), (48, .tuple #[.agg #[.int .i64 t616, .int .i64 t617], .bool t618]), (62, .agg #[.int .i64 t616, .int .i64 t617]), (63, .bool t618)]) (fun s_ w' => (w'.cell? ⟨gb599, 0, none⟩ = some (.slice (some ad607) l0_0.length c0_0) ∧ w'.cell? ⟨gb599, 1, none⟩ = some (.slice (some ad613) l0_1.length c0_1) ∧ w'.cell? (ad613.add (x10_2).toNat) = some (.slice (some ad614) (rd_L2 l0_1 x10_2).length c613_0) ∧ w'.cell? (ad614.add (x8_1).toNat) = some (.int .i64 (rd (rd_L2 l0_1 x10_2) x8_1)) ∧ w'.cell? (ad612.add (x10_2).toNat) = some (.int .i64 (rd t604 x10_2))) ∧ (Kd.R k36 36 w' w.heap.size (fun k_ => k_ ≠ gb608 ∧ k_ ≠ s_) u6 x6_1) ∧ (Kd.R (Kd.int .i64) 3 w' w.heap.size (fun _ => True) (.slice (some ad612) t604.length co33) t604) ∧ (w'.heap[gb599]? = some (.cells #[.slice (some ad607) l0_0.length c0_0, .slice (some ad613) l0_1.length c0_1] 26 (0, 0))) ∧ (w'.heap[gb608]? = some (.cells #[.int .i64 x609000_2, .int .i64 x609001_2] 36 (0, 0))) ∧ (w'.heap[s_]? = some (.cells #[.int .i64 0, .int .i64 0] 36 (0, 0))) ∧ (w.heap.size ≤ s_) ∧ (w.heap.size ≤ s_) ∧ (gb599 ≠ s_) ∧ (s_ ≠ gb599) ∧ (gb608 ≠ s_) ∧ (s_ ≠ gb608) ∧ (Below w.heap.size w w')) ?_ ?_
                  rotate_left
                  ·intro hCont
                   refine two_ (i := 12) (j := 16) (Ni := some 61) (Nj := some 11) (tl_ 19 8191) (tl_ 19 69631) rfl rfl rfl rfl (two_of HT_.out (g0_)) (by decide) (by decide) (fun K hK => ?_) (fun K hK => ?_)
                   ·skip
                    refine goes_ Try.func74 (g0_) rfl #[.int .i64 (rd (rd_L2 l0_1 x10_2) x8_1), .int .i64 (rd t604 x10_2)] (by rfl) rfl rfl (g2_) ?_
                    with_reducible refine (spec_FracOf.calls k2 (rd (rd_L2 l0_1 x10_2) x8_1) (rd t604 x10_2) t616 t617 t618 _ A28.out).mono ?_
                    rintro e w35 ⟨rfl, hb⟩
                    have HS4_ := (hb.cell (World.block_lt_of_cell? _ _ (hHeld.2.2.2.2))).trans (hHeld.2.2.2.2)
                    refine ⟨_, rfl, ?_⟩
                    replace HO_6 := Aside0.mk (Kd.R_below (uf1_ HO_6) hb)
                    replace HO_7 := Aside0.mk (Kd.R_below (uf1_ HO_7) hb)
                    replace BK599 := Aside0.mk (blk_below (g := gb599) (o := .cells #[.slice (some ad607) l0_0.length c0_0, .slice (some ad613) l0_1.length c0_1] 26 (0, 0)) (uf0_ BK599) hb)
                    replace BK608 := Aside0.mk (blk_below (g := gb608) (o := .cells #[.int .i64 x609000_2, .int .i64 x609001_2] 36 (0, 0)) (uf0_ BK608) hb)
                    replace HB := Aside0.mk (below_step (spec_GetsOf.calls_q0) hb)
                    (try clear hb)
                    (try clear hk hi)
                    refine hK.out _ _ ⟨(blk_cell BK599.out 0).trans rfl, (blk_cell BK599.out 1).trans rfl, ((cl_ HB hw613_0).trans rfl), ((cl_ HB hw614_0).trans rfl), HS4_⟩ (fun hHeld => ?_)
                    clear hK K
                    refine nm_ ?_
                    refine pw_ 13 48 (tl_ 19 16383) rfl rfl ?_
                    refine pw_ 14 62 (tl_ 19 32767) rfl rfl ?_
                    refine pw_ 15 63 (tl_ 19 65535) rfl rfl ?_
                    refine one_ (i := 16) (N := some 11) (tl_ 19 131071) rfl rfl (one_of HT_.out (g0_)) (by decide) (fun K hK => ?_)
                    refine box_step ?hg (N := 11) ?hd (cs := #[.int .i64 0, .int .i64 0]) (t := 36) ?hr ?_; (case hd => rfl); (case hg => rfl); (case hr => first | (go_simp; done) | (go_simp; rfl))
                    intro gb619 hg w36 hbox hb
                    have HS4_ := (hb.cell (World.block_lt_of_cell? _ _ (hHeld.2.2.2.2))).trans (hHeld.2.2.2.2)
                    replace HO_6 := Aside0.mk (Kd.R_below (Kd.R_elderB (uf1_ HO_6) gb619 (Nat.le_of_eq hg.symm)) hb)
                    replace HO_7 := Aside0.mk (Kd.R_below (uf1_ HO_7) hb)
                    have BK619 := Aside0.mk (hbox)
                    have GW619 := Aside0.mk ((g6_ : w.heap.size ≤ gb619))
                    have GE619 := Aside0.mk ((g6_ : w.heap.size ≤ gb619))
                    replace HB := Aside0.mk (below_step (spec_GetsOf.calls_q0) hb)
                    have NB599_619 := Aside0.mk ((g25_ : gb599 ≠ gb619))
                    have NB619_599 := Aside0.mk ((g26_ : gb619 ≠ gb599))
                    replace BK599 := Aside0.mk (blk_below (g := gb599) (o := .cells #[.slice (some ad607) l0_0.length c0_0, .slice (some ad613) l0_1.length c0_1] 26 (0, 0)) (uf0_ BK599) hb)
                    have NB608_619 := Aside0.mk ((g27_ : gb608 ≠ gb619))
                    have NB619_608 := Aside0.mk ((g28_ : gb619 ≠ gb608))
                    replace BK608 := Aside0.mk (blk_below (g := gb608) (o := .cells #[.int .i64 x609000_2, .int .i64 x609001_2] 36 (0, 0)) (uf0_ BK608) hb)
                    clear hb hbox hg
                    refine hK.out _ _ ⟨(blk_cell BK599.out 0).trans rfl, (blk_cell BK599.out 1).trans rfl, ((cl_ HB hw613_0).trans rfl), ((cl_ HB hw614_0).trans rfl), HS4_⟩ (fun hHeld => ?_)
                    clear hK K
                    refine nm_ ?_
                    exact norm_ (g8_) (hCont (gb619) _ ⟨hHeld, (uf1_ HO_6), (uf1_ HO_7), (uf0_ BK599), (uf0_ BK608), (uf0_ BK619), GW619.out, GE619.out, NB599_619.out, NB619_599.out, NB608_619.out, NB619_608.out, (spec_GetsOf.calls_q0)⟩)
                   ·skip
                    refine box_step ?hg (N := 11) ?hd (cs := #[.int .i64 0, .int .i64 0]) (t := 36) ?hr ?_; (case hd => rfl); (case hg => rfl); (case hr => first | (go_simp; done) | (go_simp; rfl))
                    intro gb619 hg w35 hbox hb
                    have HS4_ := (hb.cell (World.block_lt_of_cell? _ _ (hHeld.2.2.2.2))).trans (hHeld.2.2.2.2)
                    replace HO_6 := Aside0.mk (Kd.R_below (Kd.R_elderB (uf1_ HO_6) gb619 (Nat.le_of_eq hg.symm)) hb)
                    replace HO_7 := Aside0.mk (Kd.R_below (uf1_ HO_7) hb)
                    have BK619 := Aside0.mk (hbox)
                    have GW619 := Aside0.mk ((g6_ : w.heap.size ≤ gb619))
                    have GE619 := Aside0.mk ((g6_ : w.heap.size ≤ gb619))
                    replace HB := Aside0.mk (below_step (spec_GetsOf.calls_q0) hb)
                    have NB599_619 := Aside0.mk ((g25_ : gb599 ≠ gb619))
                    have NB619_599 := Aside0.mk ((g26_ : gb619 ≠ gb599))
                    replace BK599 := Aside0.mk (blk_below (g := gb599) (o := .cells #[.slice (some ad607) l0_0.length c0_0, .slice (some ad613) l0_1.length c0_1] 26 (0, 0)) (uf0_ BK599) hb)
                    have NB608_619 := Aside0.mk ((g27_ : gb608 ≠ gb619))
                    have NB619_608 := Aside0.mk ((g28_ : gb619 ≠ gb608))
                    replace BK608 := Aside0.mk (blk_below (g := gb608) (o := .cells #[.int .i64 x609000_2, .int .i64 x609001_2] 36 (0, 0)) (uf0_ BK608) hb)
                    clear hb hbox hg
                    refine hK.out _ _ ⟨(blk_cell BK599.out 0).trans rfl, (blk_cell BK599.out 1).trans rfl, ((cl_ HB hw613_0).trans rfl), ((cl_ HB hw614_0).trans rfl), HS4_⟩ (fun hHeld => ?_)
                    clear hK K
                    refine nm_ ?_
                    refine one_ (i := 12) (N := some 61) (tl_ 19 73727) rfl rfl (one_of HT_.out (g0_)) (by decide) (fun K hK => ?_)
                    refine goes_ Try.func74 (g0_) rfl #[.int .i64 (rd (rd_L2 l0_1 x10_2) x8_1), .int .i64 (rd t604 x10_2)] (by rfl) rfl rfl (g2_) ?_
                    with_reducible refine (spec_FracOf.calls k2 (rd (rd_L2 l0_1 x10_2) x8_1) (rd t604 x10_2) t616 t617 t618 _ A28.out).mono ?_
                    rintro e w36 ⟨rfl, hb⟩
                    have HS4_ := (hb.cell (World.block_lt_of_cell? _ _ (hHeld.2.2.2.2))).trans (hHeld.2.2.2.2)
                    refine ⟨_, rfl, ?_⟩
                    replace HO_6 := Aside0.mk (Kd.R_below (uf1_ HO_6) hb)
                    replace HO_7 := Aside0.mk (Kd.R_below (uf1_ HO_7) hb)
                    replace BK599 := Aside0.mk (blk_below (g := gb599) (o := .cells #[.slice (some ad607) l0_0.length c0_0, .slice (some ad613) l0_1.length c0_1] 26 (0, 0)) (uf0_ BK599) hb)
                    replace BK608 := Aside0.mk (blk_below (g := gb608) (o := .cells #[.int .i64 x609000_2, .int .i64 x609001_2] 36 (0, 0)) (uf0_ BK608) hb)
                    replace BK619 := Aside0.mk (blk_below (g := gb619) (o := .cells #[.int .i64 0, .int .i64 0] 36 (0, 0)) (uf0_ BK619) hb)
                    replace HB := Aside0.mk (below_step (spec_GetsOf.calls_q0) hb)
                    (try clear hb)
                    (try clear hk hi)
                    refine hK.out _ _ ⟨(blk_cell BK599.out 0).trans rfl, (blk_cell BK599.out 1).trans rfl, ((cl_ HB hw613_0).trans rfl), ((cl_ HB hw614_0).trans rfl), HS4_⟩ (fun hHeld => ?_)
                    clear hK K
                    refine nm_ ?_
                    refine pw_ 13 48 (tl_ 19 81919) rfl rfl ?_
                    refine pw_ 14 62 (tl_ 19 98303) rfl rfl ?_
                    refine pw_ 15 63 (tl_ 19 131071) rfl rfl ?_
                    exact norm_ (g8_) (hCont (gb619) _ ⟨hHeld, (uf1_ HO_6), (uf1_ HO_7), (uf0_ BK599), (uf0_ BK608), (uf0_ BK619), GW619.out, GE619.out, NB599_619.out, NB619_599.out, NB608_619.out, NB619_608.out, (spec_GetsOf.calls_q0)⟩)
                  rintro gb619 w37 ⟨hS_, h0_, h1_, h2_, h3_, h4_, h5_, h6_, h7_, h8_, h9_, h10_, h11_⟩
                  replace HO_6 : Aside0 (Kd.R k36 36 w37 w.heap.size (fun k_ => k_ ≠ gb608 ∧ k_ ≠ gb619) u6 x6_1) := ⟨h0_⟩
                  replace HO_7 : Aside0 (Kd.R (Kd.int .i64) 3 w37 w.heap.size (fun _ => True) (.slice (some ad612) t604.length co33) t604) := ⟨h1_⟩
                  replace BK599 : Aside0 (w37.heap[gb599]? = some (.cells #[.slice (some ad607) l0_0.length c0_0, .slice (some ad613) l0_1.length c0_1] 26 (0, 0))) := ⟨h2_⟩
                  replace BK608 : Aside0 (w37.heap[gb608]? = some (.cells #[.int .i64 x609000_2, .int .i64 x609001_2] 36 (0, 0))) := ⟨h3_⟩
                  have BK619 : Aside0 (w37.heap[gb619]? = some (.cells #[.int .i64 0, .int .i64 0] 36 (0, 0))) := ⟨h4_⟩
                  have GW619 : Aside0 (w.heap.size ≤ gb619) := ⟨h5_⟩
                  have GE619 : Aside0 (w.heap.size ≤ gb619) := ⟨h6_⟩
                  have NB599_619 : Aside0 (gb599 ≠ gb619) := ⟨h7_⟩
                  have NB619_599 : Aside0 (gb619 ≠ gb599) := ⟨h8_⟩
                  have NB608_619 : Aside0 (gb608 ≠ gb619) := ⟨h9_⟩
                  have NB619_608 : Aside0 (gb619 ≠ gb608) := ⟨h10_⟩
                  replace HB : Aside0 (Below w.heap.size w w37) := ⟨h11_⟩
                  clear h0_ h1_ h2_ h3_ h4_ h5_ h6_ h7_ h8_ h9_ h10_ h11_
                  have hHeld : w37.cell? ⟨gb599, 0, none⟩ = some (.slice (some ad607) l0_0.length c0_0) ∧ w37.cell? ⟨gb599, 1, none⟩ = some (.slice (some ad613) l0_1.length c0_1) ∧ w37.cell? (ad613.add (x10_2).toNat) = some (.slice (some ad614) (rd_L2 l0_1 x10_2).length c613_0) ∧ w37.cell? (ad614.add (x8_1).toNat) = some (.int .i64 (rd (rd_L2 l0_1 x10_2) x8_1)) ∧ w37.cell? (ad612.add (x10_2).toNat) = some (.int .i64 (rd t604 x10_2)) := hS_
                  refine norm_ (a' := ?_) ?_ ?_
                  rotate_left
                  ·simp only [putAll, Act.put, List.setIfInBounds_toArray, List.set_cons_zero, List.set_cons_succ]
                   rfl
                  refine one_ (i := 17) (N := none) (tl_ 19 262143) rfl rfl (one_of HT_.out (g0_)) (by decide) (fun K hK => ?_)
                  have hs38 : w37.cell? ⟨gb619, 0, none⟩ = some (.int .i64 0) := (blk_cell BK619.out 0).trans rfl
                  have hfs38 := blk_frozen BK619.out 0
                  have hns38_0 := NB599_619.out
                  have hns38_1 := NB608_619.out
                  have hms38_0 := NB619_599.out
                  have hms38_1 := NB619_608.out
                  have hs39 : w37.cell? ⟨gb619, 1, none⟩ = some (.int .i64 0) := (blk_cell BK619.out 1).trans rfl
                  have hfs39 := blk_frozen BK619.out 1
                  have hns39_0 := NB599_619.out
                  have hns39_1 := NB608_619.out
                  have hms39_0 := NB619_599.out
                  have hms39_1 := NB619_608.out
                  refine skip_ (w1 := ?_) (by rfl) rfl ?_ ?_
                  rotate_left
                  ·go_simp
                   rfl
                  refine hK.out _ _ ⟨((cell_far (p := ⟨gb619, _, none⟩) NB599_619.out _).trans (((cell_far (p := ⟨gb619, _, none⟩) NB599_619.out _).trans (hHeld.1)))), ((cell_far (p := ⟨gb619, _, none⟩) NB599_619.out _).trans (((cell_far (p := ⟨gb619, _, none⟩) NB599_619.out _).trans (hHeld.2.1)))), ((cell_far (p := ⟨gb619, _, none⟩) (by first | exact Nat.ne_of_lt (Nat.lt_of_lt_of_le (by have := World.block_lt_of_cell? _ _ hw613_0; first | rwa [add_block] at this | exact this) GW619.out) | (rw [add_block]; exact Nat.ne_of_lt (Nat.lt_of_lt_of_le (by have := World.block_lt_of_cell? _ _ hw613_0; first | rwa [add_block] at this | exact this) GW619.out)) | (show (Addr.add _ _).block ≠ _; rw [add_block]; exact Nat.ne_of_lt (Nat.lt_of_lt_of_le (by have := World.block_lt_of_cell? _ _ hw613_0; first | rwa [add_block] at this | exact this) GW619.out)) | (dsimp only; exact Nat.ne_of_lt (Nat.lt_of_lt_of_le (by have := World.block_lt_of_cell? _ _ hw613_0; first | rwa [add_block] at this | exact this) GW619.out))) _).trans (((cell_far (p := ⟨gb619, _, none⟩) (by first | exact Nat.ne_of_lt (Nat.lt_of_lt_of_le (by have := World.block_lt_of_cell? _ _ hw613_0; first | rwa [add_block] at this | exact this) GW619.out) | (rw [add_block]; exact Nat.ne_of_lt (Nat.lt_of_lt_of_le (by have := World.block_lt_of_cell? _ _ hw613_0; first | rwa [add_block] at this | exact this) GW619.out)) | (show (Addr.add _ _).block ≠ _; rw [add_block]; exact Nat.ne_of_lt (Nat.lt_of_lt_of_le (by have := World.block_lt_of_cell? _ _ hw613_0; first | rwa [add_block] at this | exact this) GW619.out)) | (dsimp only; exact Nat.ne_of_lt (Nat.lt_of_lt_of_le (by have := World.block_lt_of_cell? _ _ hw613_0; first | rwa [add_block] at this | exact this) GW619.out))) _).trans (hHeld.2.2.1)))), ((cell_far (p := ⟨gb619, _, none⟩) (by first | exact Nat.ne_of_lt (Nat.lt_of_lt_of_le (by have := World.block_lt_of_cell? _ _ hw614_0; first | rwa [add_block] at this | exact this) GW619.out) | (rw [add_block]; exact Nat.ne_of_lt (Nat.lt_of_lt_of_le (by have := World.block_lt_of_cell? _ _ hw614_0; first | rwa [add_block] at this | exact this) GW619.out)) | (show (Addr.add _ _).block ≠ _; rw [add_block]; exact Nat.ne_of_lt (Nat.lt_of_lt_of_le (by have := World.block_lt_of_cell? _ _ hw614_0; first | rwa [add_block] at this | exact this) GW619.out)) | (dsimp only; exact Nat.ne_of_lt (Nat.lt_of_lt_of_le (by have := World.block_lt_of_cell? _ _ hw614_0; first | rwa [add_block] at this | exact this) GW619.out))) _).trans (((cell_far (p := ⟨gb619, _, none⟩) (by first | exact Nat.ne_of_lt (Nat.lt_of_lt_of_le (by have := World.block_lt_of_cell? _ _ hw614_0; first | rwa [add_block] at this | exact this) GW619.out) | (rw [add_block]; exact Nat.ne_of_lt (Nat.lt_of_lt_of_le (by have := World.block_lt_of_cell? _ _ hw614_0; first | rwa [add_block] at this | exact this) GW619.out)) | (show (Addr.add _ _).block ≠ _; rw [add_block]; exact Nat.ne_of_lt (Nat.lt_of_lt_of_le (by have := World.block_lt_of_cell? _ _ hw614_0; first | rwa [add_block] at this | exact this) GW619.out)) | (dsimp only; exact Nat.ne_of_lt (Nat.lt_of_lt_of_le (by have := World.block_lt_of_cell? _ _ hw614_0; first | rwa [add_block] at this | exact this) GW619.out))) _).trans (hHeld.2.2.2.1)))), ((cell_far (p := ⟨gb619, _, none⟩) (g72_) _).trans (((cell_far (p := ⟨gb619, _, none⟩) (g72_) _).trans (hHeld.2.2.2.2))))⟩ (fun hHeld => ?_)
                  clear hK K
                  refine pw_ 18 12 (tl_ 19 524287) rfl rfl ?_
                  refine done_ (done_of HT_.out (g0_)) ?_
                  try go_wp2
                  have n0_ : Aside0 (Kd.R k36 36 ((w37.setCell ⟨gb619, 0, none⟩ (.int .i64 t616)).setCell ⟨gb619, 1, none⟩ (.int .i64 t617)) w.heap.size (fun k_ => k_ ≠ gb608 ∧ k_ ≠ gb619) u6 x6_1) := ⟨g157_⟩
                  have n1_ : Aside0 (Kd.R (Kd.int .i64) 3 ((w37.setCell ⟨gb619, 0, none⟩ (.int .i64 t616)).setCell ⟨gb619, 1, none⟩ (.int .i64 t617)) w.heap.size (fun _ => True) (.slice (some ad612) t604.length co33) t604) := ⟨g158_⟩
                  have n2_ : Aside0 (((w37.setCell ⟨gb619, 0, none⟩ (.int .i64 t616)).setCell ⟨gb619, 1, none⟩ (.int .i64 t617)).heap[gb599]? = some (.cells #[.slice (some ad607) l0_0.length c0_0, .slice (some ad613) l0_1.length c0_1] 26 (0, 0))) := ⟨g159_⟩
                  have n3_ : Aside0 (((w37.setCell ⟨gb619, 0, none⟩ (.int .i64 t616)).setCell ⟨gb619, 1, none⟩ (.int .i64 t617)).heap[gb608]? = some (.cells #[.int .i64 x609000_2, .int .i64 x609001_2] 36 (0, 0))) := ⟨g160_⟩
                  have n4_ : Aside0 (((w37.setCell ⟨gb619, 0, none⟩ (.int .i64 t616)).setCell ⟨gb619, 1, none⟩ (.int .i64 t617)).heap[gb619]? = some (.cells #[.int .i64 t616, .int .i64 t617] 36 (0, 0))) := ⟨g161_⟩
                  have n5_ : Aside0 (Below w.heap.size w ((w37.setCell ⟨gb619, 0, none⟩ (.int .i64 t616)).setCell ⟨gb619, 1, none⟩ (.int .i64 t617))) := ⟨spec_GetsOf.calls_q0⟩
                  (try clear HO_6)
                  (try clear HO_7)
                  (try clear BK599)
                  (try clear BK608)
                  (try clear BK619)
                  (try clear HB)
                  generalize ((w37.setCell ⟨gb619, 0, none⟩ (.int .i64 t616)).setCell ⟨gb619, 1, none⟩ (.int .i64 t617)) = w40 at n0_ n1_ n2_ n3_ n4_ n5_ ⊢
                  have HO_6 := n0_
                  have HO_7 := n1_
                  have BK599 := n2_
                  have BK608 := n3_
                  have BK619 := n4_
                  have HB := n5_
                  clear n0_ n1_ n2_ n3_ n4_ n5_
                  replace HO_6 := Aside0.mk (Kd.R_drew HO_6.out)
                  replace HO_7 := Aside0.mk (Kd.R_drew HO_7.out)
                  replace BK599 := Aside0.mk (blk_drew BK599.out)
                  replace BK608 := Aside0.mk (blk_drew BK608.out)
                  replace BK619 := Aside0.mk (blk_drew BK619.out)
                  replace HB := Aside0.mk (below_drew1 HB.out)
                  have p620 : 0 ≤ (x10_2 : Int) := of_decide_eq_true (g1_)
                  have q620 : x10_2 < (l1.length : Int) := of_decide_eq_true (g1_)
                  obtain ⟨ad620, e620, hx620_0, hx620_1⟩ := at_T36 HR1.out x10_2 p620 q620
                  have hw620_1 := hx620_1
                  have hw620_0 := hx620_0
                  cases e620
                  replace hx620_0 := cl_ HB hx620_0
                  replace hx620_1 := cl_ HB hx620_1
                  replace p620 := eq_true p620
                  replace q620 := eq_true q620
                  refine start_ (n := 12) (S := fun w' => w'.cell? ⟨gb619, 0, none⟩ = some (.int .i64 t616) ∧ w'.cell? ⟨gb619, 1, none⟩ = some (.int .i64 t617) ∧ w'.cell? (ad620.add ((x10_2).toNat * 2)) = some (.int .i64 ((rd_T36 l1 x10_2).f0)) ∧ w'.cell? ⟨(ad620.add ((x10_2).toNat * 2)).block, (ad620.add ((x10_2).toNat * 2)).off + 1, none⟩ = some (.int .i64 ((rd_T36 l1 x10_2).f1))) (ds := []) (tl_ 12 0) (g0_) rfl (g0_) ⟨(blk_cell BK619.out 0).trans rfl, (blk_cell BK619.out 1).trans rfl, ((cl_ HB hw620_0).trans rfl), ((cl_ HB hw620_1).trans rfl)⟩ (fun hHeld => ?_); refine with_tabW spec_GetsOf.tab14 spec_GetsOf.bits14 (fun HT_ HW_ => ?_)
                  generalize w40.drew = w41 at HO_6 HO_7 BK599 BK608 BK619 HB hx620_0 hx620_1 hHeld ⊢
                  refine pw_ 0 65 (tl_ 12 1) rfl rfl ?_
                  refine pw_ 1 66 (tl_ 12 3) rfl rfl ?_
                  refine pw_ 2 67 (tl_ 12 7) rfl rfl ?_
                  refine tk3_ 3 68 (tl_ 12 15) rfl rfl hHeld ?_
                  refine tk3_ 4 69 (tl_ 12 31) rfl rfl hHeld ?_
                  refine join_ (σ := Nat) 2 (tl_ 12 1023) (fun s_ => [(70, .tuple #[.agg #[.int .i64 t621, .int .i64 t622], .bool true]), (13, .pointer (some ⟨s_, 0, none⟩)), (64, .tuple #[.agg #[.int .i64 t621, .int .i64 t622], .bool true]), (71, .agg #[.int .i64 t621, .int .i64 t622]), (72, .bool true)]) (fun s_ w' => (w'.cell? ⟨gb619, 0, none⟩ = some (.int .i64 t616) ∧ w'.cell? ⟨gb619, 1, none⟩ = some (.int .i64 t617) ∧ w'.cell? (ad620.add ((x10_2).toNat * 2)) = some (.int .i64 ((rd_T36 l1 x10_2).f0)) ∧ w'.cell? ⟨(ad620.add ((x10_2).toNat * 2)).block, (ad620.add ((x10_2).toNat * 2)).off + 1, none⟩ = some (.int .i64 ((rd_T36 l1 x10_2).f1))) ∧ (Kd.R k36 36 w' w.heap.size (fun k_ => k_ ≠ gb608 ∧ k_ ≠ gb619 ∧ k_ ≠ s_) u6 x6_1) ∧ (Kd.R (Kd.int .i64) 3 w' w.heap.size (fun _ => True) (.slice (some ad612) t604.length co33) t604) ∧ (w'.heap[gb599]? = some (.cells #[.slice (some ad607) l0_0.length c0_0, .slice (some ad613) l0_1.length c0_1] 26 (0, 0))) ∧ (w'.heap[gb608]? = some (.cells #[.int .i64 x609000_2, .int .i64 x609001_2] 36 (0, 0))) ∧ (w'.heap[gb619]? = some (.cells #[.int .i64 t616, .int .i64 t617] 36 (0, 0))) ∧ (w'.heap[s_]? = some (.cells #[.int .i64 0, .int .i64 0] 36 (0, 0))) ∧ (w.heap.size ≤ s_) ∧ (w.heap.size ≤ s_) ∧ (gb599 ≠ s_) ∧ (s_ ≠ gb599) ∧ (gb608 ≠ s_) ∧ (s_ ≠ gb608) ∧ (gb619 ≠ s_) ∧ (s_ ≠ gb619) ∧ (Below w.heap.size w w')) ?_ ?_
                  rotate_left
                  ·intro hCont
                   refine two_ (i := 5) (j := 9) (Ni := some 70) (Nj := some 13) (tl_ 12 63) (tl_ 12 543) rfl rfl rfl rfl (two_of HT_.out (g0_)) (by decide) (by decide) (fun K hK => ?_) (fun K hK => ?_)
                   ·skip
                    refine goes_ Try.func75 (g0_) rfl #[.agg #[.int .i64 ((rd_T36 l1 x10_2).f0), .int .i64 ((rd_T36 l1 x10_2).f1)], .agg #[.int .i64 t616, .int .i64 t617]] (by rfl) rfl rfl (g2_) ?_
                    with_reducible refine (spec_TimesOf.calls k2 ((rd_T36 l1 x10_2).f0) ((rd_T36 l1 x10_2).f1) t616 t617 t621 t622 true _ A29.out).mono ?_
                    rintro e w42 ⟨rfl, hb⟩
                    refine ⟨_, rfl, ?_⟩
                    replace HO_6 := Aside0.mk (Kd.R_below (uf1_ HO_6) hb)
                    replace HO_7 := Aside0.mk (Kd.R_below (uf1_ HO_7) hb)
                    replace BK599 := Aside0.mk (blk_below (g := gb599) (o := .cells #[.slice (some ad607) l0_0.length c0_0, .slice (some ad613) l0_1.length c0_1] 26 (0, 0)) (uf0_ BK599) hb)
                    replace BK608 := Aside0.mk (blk_below (g := gb608) (o := .cells #[.int .i64 x609000_2, .int .i64 x609001_2] 36 (0, 0)) (uf0_ BK608) hb)
                    replace BK619 := Aside0.mk (blk_below (g := gb619) (o := .cells #[.int .i64 t616, .int .i64 t617] 36 (0, 0)) (uf0_ BK619) hb)
                    replace HB := Aside0.mk (below_step (spec_GetsOf.calls_q0) hb)
                    (try clear hb)
                    (try clear hk hi)
                    refine hK.out _ _ ⟨(blk_cell BK619.out 0).trans rfl, (blk_cell BK619.out 1).trans rfl, ((cl_ HB hw620_0).trans rfl), ((cl_ HB hw620_1).trans rfl)⟩ (fun hHeld => ?_)
                    clear hK K
                    refine nm_ ?_
                    refine pw_ 6 64 (tl_ 12 127) rfl rfl ?_
                    refine pw_ 7 71 (tl_ 12 255) rfl rfl ?_
                    refine pw_ 8 72 (tl_ 12 511) rfl rfl ?_
                    refine one_ (i := 9) (N := some 13) (tl_ 12 1023) rfl rfl (one_of HT_.out (g0_)) (by decide) (fun K hK => ?_)
                    refine box_step ?hg (N := 13) ?hd (cs := #[.int .i64 0, .int .i64 0]) (t := 36) ?hr ?_; (case hd => rfl); (case hg => rfl); (case hr => first | (go_simp; done) | (go_simp; rfl))
                    intro gb624 hg w43 hbox hb
                    replace HO_6 := Aside0.mk (Kd.R_below (Kd.R_elderB (uf1_ HO_6) gb624 (Nat.le_of_eq hg.symm)) hb)
                    replace HO_7 := Aside0.mk (Kd.R_below (uf1_ HO_7) hb)
                    have BK624 := Aside0.mk (hbox)
                    have GW624 := Aside0.mk ((g6_ : w.heap.size ≤ gb624))
                    have GE624 := Aside0.mk ((g6_ : w.heap.size ≤ gb624))
                    replace HB := Aside0.mk (below_step (spec_GetsOf.calls_q0) hb)
                    have NB599_624 := Aside0.mk ((g25_ : gb599 ≠ gb624))
                    have NB624_599 := Aside0.mk ((g26_ : gb624 ≠ gb599))
                    replace BK599 := Aside0.mk (blk_below (g := gb599) (o := .cells #[.slice (some ad607) l0_0.length c0_0, .slice (some ad613) l0_1.length c0_1] 26 (0, 0)) (uf0_ BK599) hb)
                    have NB608_624 := Aside0.mk ((g27_ : gb608 ≠ gb624))
                    have NB624_608 := Aside0.mk ((g28_ : gb624 ≠ gb608))
                    replace BK608 := Aside0.mk (blk_below (g := gb608) (o := .cells #[.int .i64 x609000_2, .int .i64 x609001_2] 36 (0, 0)) (uf0_ BK608) hb)
                    have NB619_624 := Aside0.mk ((g39_ : gb619 ≠ gb624))
                    have NB624_619 := Aside0.mk ((g40_ : gb624 ≠ gb619))
                    replace BK619 := Aside0.mk (blk_below (g := gb619) (o := .cells #[.int .i64 t616, .int .i64 t617] 36 (0, 0)) (uf0_ BK619) hb)
                    clear hb hbox hg
                    refine hK.out _ _ ⟨(blk_cell BK619.out 0).trans rfl, (blk_cell BK619.out 1).trans rfl, ((cl_ HB hw620_0).trans rfl), ((cl_ HB hw620_1).trans rfl)⟩ (fun hHeld => ?_)
                    clear hK K
                    refine nm_ ?_
                    exact norm_ (g8_) (hCont (gb624) _ ⟨hHeld, (g73_), (uf1_ HO_7), (uf0_ BK599), (uf0_ BK608), (uf0_ BK619), (uf0_ BK624), GW624.out, GE624.out, NB599_624.out, NB624_599.out, NB608_624.out, NB624_608.out, NB619_624.out, NB624_619.out, (spec_GetsOf.calls_q0)⟩)
                   ·skip
                    refine box_step ?hg (N := 13) ?hd (cs := #[.int .i64 0, .int .i64 0]) (t := 36) ?hr ?_; (case hd => rfl); (case hg => rfl); (case hr => first | (go_simp; done) | (go_simp; rfl))
                    intro gb624 hg w42 hbox hb
                    replace HO_6 := Aside0.mk (Kd.R_below (Kd.R_elderB (uf1_ HO_6) gb624 (Nat.le_of_eq hg.symm)) hb)
                    replace HO_7 := Aside0.mk (Kd.R_below (uf1_ HO_7) hb)
                    have BK624 := Aside0.mk (hbox)
                    have GW624 := Aside0.mk ((g6_ : w.heap.size ≤ gb624))
                    have GE624 := Aside0.mk ((g6_ : w.heap.size ≤ gb624))
                    replace HB := Aside0.mk (below_step (spec_GetsOf.calls_q0) hb)
                    have NB599_624 := Aside0.mk ((g25_ : gb599 ≠ gb624))
                    have NB624_599 := Aside0.mk ((g26_ : gb624 ≠ gb599))
                    replace BK599 := Aside0.mk (blk_below (g := gb599) (o := .cells #[.slice (some ad607) l0_0.length c0_0, .slice (some ad613) l0_1.length c0_1] 26 (0, 0)) (uf0_ BK599) hb)
                    have NB608_624 := Aside0.mk ((g27_ : gb608 ≠ gb624))
                    have NB624_608 := Aside0.mk ((g28_ : gb624 ≠ gb608))
                    replace BK608 := Aside0.mk (blk_below (g := gb608) (o := .cells #[.int .i64 x609000_2, .int .i64 x609001_2] 36 (0, 0)) (uf0_ BK608) hb)
                    have NB619_624 := Aside0.mk ((g39_ : gb619 ≠ gb624))
                    have NB624_619 := Aside0.mk ((g40_ : gb624 ≠ gb619))
                    replace BK619 := Aside0.mk (blk_below (g := gb619) (o := .cells #[.int .i64 t616, .int .i64 t617] 36 (0, 0)) (uf0_ BK619) hb)
                    clear hb hbox hg
                    refine hK.out _ _ ⟨(blk_cell BK619.out 0).trans rfl, (blk_cell BK619.out 1).trans rfl, ((cl_ HB hw620_0).trans rfl), ((cl_ HB hw620_1).trans rfl)⟩ (fun hHeld => ?_)
                    clear hK K
                    refine nm_ ?_
                    refine one_ (i := 5) (N := some 70) (tl_ 12 575) rfl rfl (one_of HT_.out (g0_)) (by decide) (fun K hK => ?_)
                    refine goes_ Try.func75 (g0_) rfl #[.agg #[.int .i64 ((rd_T36 l1 x10_2).f0), .int .i64 ((rd_T36 l1 x10_2).f1)], .agg #[.int .i64 t616, .int .i64 t617]] (by rfl) rfl rfl (g2_) ?_
                    with_reducible refine (spec_TimesOf.calls k2 ((rd_T36 l1 x10_2).f0) ((rd_T36 l1 x10_2).f1) t616 t617 t621 t622 true _ A29.out).mono ?_
                    rintro e w43 ⟨rfl, hb⟩
                    refine ⟨_, rfl, ?_⟩
                    replace HO_6 := Aside0.mk (Kd.R_below (uf1_ HO_6) hb)
                    replace HO_7 := Aside0.mk (Kd.R_below (uf1_ HO_7) hb)
                    replace BK599 := Aside0.mk (blk_below (g := gb599) (o := .cells #[.slice (some ad607) l0_0.length c0_0, .slice (some ad613) l0_1.length c0_1] 26 (0, 0)) (uf0_ BK599) hb)
                    replace BK608 := Aside0.mk (blk_below (g := gb608) (o := .cells #[.int .i64 x609000_2, .int .i64 x609001_2] 36 (0, 0)) (uf0_ BK608) hb)
                    replace BK619 := Aside0.mk (blk_below (g := gb619) (o := .cells #[.int .i64 t616, .int .i64 t617] 36 (0, 0)) (uf0_ BK619) hb)
                    replace BK624 := Aside0.mk (blk_below (g := gb624) (o := .cells #[.int .i64 0, .int .i64 0] 36 (0, 0)) (uf0_ BK624) hb)
                    replace HB := Aside0.mk (below_step (spec_GetsOf.calls_q0) hb)
                    (try clear hb)
                    (try clear hk hi)
                    refine hK.out _ _ ⟨(blk_cell BK619.out 0).trans rfl, (blk_cell BK619.out 1).trans rfl, ((cl_ HB hw620_0).trans rfl), ((cl_ HB hw620_1).trans rfl)⟩ (fun hHeld => ?_)
                    clear hK K
                    refine nm_ ?_
                    refine pw_ 6 64 (tl_ 12 639) rfl rfl ?_
                    refine pw_ 7 71 (tl_ 12 767) rfl rfl ?_
                    refine pw_ 8 72 (tl_ 12 1023) rfl rfl ?_
                    exact norm_ (g8_) (hCont (gb624) _ ⟨hHeld, (g73_), (uf1_ HO_7), (uf0_ BK599), (uf0_ BK608), (uf0_ BK619), (uf0_ BK624), GW624.out, GE624.out, NB599_624.out, NB624_599.out, NB608_624.out, NB624_608.out, NB619_624.out, NB624_619.out, (spec_GetsOf.calls_q0)⟩)
                  rintro gb624 w44 ⟨hS_, h0_, h1_, h2_, h3_, h4_, h5_, h6_, h7_, h8_, h9_, h10_, h11_, h12_, h13_, h14_⟩
                  replace HO_6 : Aside0 (Kd.R k36 36 w44 w.heap.size (fun k_ => k_ ≠ gb608 ∧ k_ ≠ gb619 ∧ k_ ≠ gb624) u6 x6_1) := ⟨h0_⟩
                  replace HO_7 : Aside0 (Kd.R (Kd.int .i64) 3 w44 w.heap.size (fun _ => True) (.slice (some ad612) t604.length co33) t604) := ⟨h1_⟩
                  replace BK599 : Aside0 (w44.heap[gb599]? = some (.cells #[.slice (some ad607) l0_0.length c0_0, .slice (some ad613) l0_1.length c0_1] 26 (0, 0))) := ⟨h2_⟩
                  replace BK608 : Aside0 (w44.heap[gb608]? = some (.cells #[.int .i64 x609000_2, .int .i64 x609001_2] 36 (0, 0))) := ⟨h3_⟩
                  replace BK619 : Aside0 (w44.heap[gb619]? = some (.cells #[.int .i64 t616, .int .i64 t617] 36 (0, 0))) := ⟨h4_⟩
                  have BK624 : Aside0 (w44.heap[gb624]? = some (.cells #[.int .i64 0, .int .i64 0] 36 (0, 0))) := ⟨h5_⟩
                  have GW624 : Aside0 (w.heap.size ≤ gb624) := ⟨h6_⟩
                  have GE624 : Aside0 (w.heap.size ≤ gb624) := ⟨h7_⟩
                  have NB599_624 : Aside0 (gb599 ≠ gb624) := ⟨h8_⟩
                  have NB624_599 : Aside0 (gb624 ≠ gb599) := ⟨h9_⟩
                  have NB608_624 : Aside0 (gb608 ≠ gb624) := ⟨h10_⟩
                  have NB624_608 : Aside0 (gb624 ≠ gb608) := ⟨h11_⟩
                  have NB619_624 : Aside0 (gb619 ≠ gb624) := ⟨h12_⟩
                  have NB624_619 : Aside0 (gb624 ≠ gb619) := ⟨h13_⟩
                  replace HB : Aside0 (Below w.heap.size w w44) := ⟨h14_⟩
                  clear h0_ h1_ h2_ h3_ h4_ h5_ h6_ h7_ h8_ h9_ h10_ h11_ h12_ h13_ h14_
                  have hHeld : w44.cell? ⟨gb619, 0, none⟩ = some (.int .i64 t616) ∧ w44.cell? ⟨gb619, 1, none⟩ = some (.int .i64 t617) ∧ w44.cell? (ad620.add ((x10_2).toNat * 2)) = some (.int .i64 ((rd_T36 l1 x10_2).f0)) ∧ w44.cell? ⟨(ad620.add ((x10_2).toNat * 2)).block, (ad620.add ((x10_2).toNat * 2)).off + 1, none⟩ = some (.int .i64 ((rd_T36 l1 x10_2).f1)) := hS_
                  refine norm_ (a' := ?_) ?_ ?_
                  rotate_left
                  ·simp only [putAll, Act.put, List.setIfInBounds_toArray, List.set_cons_zero, List.set_cons_succ]
                   rfl
                  refine one_ (i := 10) (N := none) (tl_ 12 2047) rfl rfl (one_of HT_.out (g0_)) (by decide) (fun K hK => ?_)
                  have hs45 : w44.cell? ⟨gb624, 0, none⟩ = some (.int .i64 0) := (blk_cell BK624.out 0).trans rfl
                  have hfs45 := blk_frozen BK624.out 0
                  have hns45_0 := NB599_624.out
                  have hns45_1 := NB608_624.out
                  have hns45_2 := NB619_624.out
                  have hms45_0 := NB624_599.out
                  have hms45_1 := NB624_608.out
                  have hms45_2 := NB624_619.out
                  have hs46 : w44.cell? ⟨gb624, 1, none⟩ = some (.int .i64 0) := (blk_cell BK624.out 1).trans rfl
                  have hfs46 := blk_frozen BK624.out 1
                  have hns46_0 := NB599_624.out
                  have hns46_1 := NB608_624.out
                  have hns46_2 := NB619_624.out
                  have hms46_0 := NB624_599.out
                  have hms46_1 := NB624_608.out
                  have hms46_2 := NB624_619.out
                  refine skip_ (w1 := ?_) (by rfl) rfl ?_ ?_
                  rotate_left
                  ·go_simp
                   rfl
                  refine hK.out _ _ ⟨((cell_far (p := ⟨gb624, _, none⟩) NB619_624.out _).trans (((cell_far (p := ⟨gb624, _, none⟩) NB619_624.out _).trans (hHeld.1)))), ((cell_far (p := ⟨gb624, _, none⟩) NB619_624.out _).trans (((cell_far (p := ⟨gb624, _, none⟩) NB619_624.out _).trans (hHeld.2.1)))), ((cell_far (p := ⟨gb624, _, none⟩) (by first | exact Nat.ne_of_lt (Nat.lt_of_lt_of_le (by have := World.block_lt_of_cell? _ _ hw620_0; first | rwa [add_block] at this | exact this) GW624.out) | (rw [add_block]; exact Nat.ne_of_lt (Nat.lt_of_lt_of_le (by have := World.block_lt_of_cell? _ _ hw620_0; first | rwa [add_block] at this | exact this) GW624.out)) | (show (Addr.add _ _).block ≠ _; rw [add_block]; exact Nat.ne_of_lt (Nat.lt_of_lt_of_le (by have := World.block_lt_of_cell? _ _ hw620_0; first | rwa [add_block] at this | exact this) GW624.out)) | (dsimp only; exact Nat.ne_of_lt (Nat.lt_of_lt_of_le (by have := World.block_lt_of_cell? _ _ hw620_0; first | rwa [add_block] at this | exact this) GW624.out))) _).trans (((cell_far (p := ⟨gb624, _, none⟩) (by first | exact Nat.ne_of_lt (Nat.lt_of_lt_of_le (by have := World.block_lt_of_cell? _ _ hw620_0; first | rwa [add_block] at this | exact this) GW624.out) | (rw [add_block]; exact Nat.ne_of_lt (Nat.lt_of_lt_of_le (by have := World.block_lt_of_cell? _ _ hw620_0; first | rwa [add_block] at this | exact this) GW624.out)) | (show (Addr.add _ _).block ≠ _; rw [add_block]; exact Nat.ne_of_lt (Nat.lt_of_lt_of_le (by have := World.block_lt_of_cell? _ _ hw620_0; first | rwa [add_block] at this | exact this) GW624.out)) | (dsimp only; exact Nat.ne_of_lt (Nat.lt_of_lt_of_le (by have := World.block_lt_of_cell? _ _ hw620_0; first | rwa [add_block] at this | exact this) GW624.out))) _).trans (hHeld.2.2.1)))), ((cell_far (p := ⟨gb624, _, none⟩) (by first | exact Nat.ne_of_lt (Nat.lt_of_lt_of_le (by have := World.block_lt_of_cell? _ _ hw620_1; first | rwa [add_block] at this | exact this) GW624.out) | (rw [add_block]; exact Nat.ne_of_lt (Nat.lt_of_lt_of_le (by have := World.block_lt_of_cell? _ _ hw620_1; first | rwa [add_block] at this | exact this) GW624.out)) | (show (Addr.add _ _).block ≠ _; rw [add_block]; exact Nat.ne_of_lt (Nat.lt_of_lt_of_le (by have := World.block_lt_of_cell? _ _ hw620_1; first | rwa [add_block] at this | exact this) GW624.out)) | (dsimp only; exact Nat.ne_of_lt (Nat.lt_of_lt_of_le (by have := World.block_lt_of_cell? _ _ hw620_1; first | rwa [add_block] at this | exact this) GW624.out))) _).trans (((cell_far (p := ⟨gb624, _, none⟩) (by first | exact Nat.ne_of_lt (Nat.lt_of_lt_of_le (by have := World.block_lt_of_cell? _ _ hw620_1; first | rwa [add_block] at this | exact this) GW624.out) | (rw [add_block]; exact Nat.ne_of_lt (Nat.lt_of_lt_of_le (by have := World.block_lt_of_cell? _ _ hw620_1; first | rwa [add_block] at this | exact this) GW624.out)) | (show (Addr.add _ _).block ≠ _; rw [add_block]; exact Nat.ne_of_lt (Nat.lt_of_lt_of_le (by have := World.block_lt_of_cell? _ _ hw620_1; first | rwa [add_block] at this | exact this) GW624.out)) | (dsimp only; exact Nat.ne_of_lt (Nat.lt_of_lt_of_le (by have := World.block_lt_of_cell? _ _ hw620_1; first | rwa [add_block] at this | exact this) GW624.out))) _).trans (hHeld.2.2.2))))⟩ (fun hHeld => ?_)
                  clear hK K
                  refine pw_ 11 14 (tl_ 12 4095) rfl rfl ?_
                  refine done_ (done_of HT_.out (g0_)) ?_
                  have hnb47 := NB608_599.out
                  have hnc47 := NB599_608.out
                  have hnb48 := NB608_619.out
                  have hnc48 := NB619_608.out
                  have hnb49 := NB608_624.out
                  have hnc49 := NB624_608.out
                  obtain ⟨hcz50_0, hcz50_1, hfz50_0, hfz50_1⟩ := blk2_ BK608
                  have hnb51 := NB624_599.out
                  have hnc51 := NB599_624.out
                  have hnb52 := NB624_619.out
                  have hnc52 := NB619_624.out
                  obtain ⟨hcz53_0, hcz53_1, hfz53_0, hfz53_1⟩ := blk2_ BK624
                  try go_wp2_with (first | ((with_reducible refine gate_callee (f := 76) rfl ?_); refine goesL_ (some 76) rfl rfl Try.func76 k_ rfl #[.agg #[.int .i64 x609000_2, .int .i64 x609001_2], .agg #[.int .i64 t621, .int .i64 t622]] rfl (g2_) ?_; (with_reducible refine (spec_PlusOf.calls k2 x609000_2 x609001_2 t621 t622 t625 t626 true _ A30.out).mono ?_); rintro e w54 ⟨rfl, hb⟩; refine ⟨_, rfl, ?_⟩; replace HO_6 := Aside0.mk (Kd.R_below (g162_) hb); replace HO_7 := Aside0.mk (Kd.R_below (g163_) hb); replace BK599 := Aside0.mk (blk_below (g := gb599) (o := .cells #[.slice (some ad607) l0_0.length c0_0, .slice (some ad613) l0_1.length c0_1] 26 (0, 0)) (g164_) hb); replace BK608 := Aside0.mk (blk_below (g := gb608) (o := .cells #[.int .i64 x609000_2, .int .i64 x609001_2] 36 (0, 0)) (g165_) hb); replace BK619 := Aside0.mk (blk_below (g := gb619) (o := .cells #[.int .i64 t616, .int .i64 t617] 36 (0, 0)) (g166_) hb); replace BK624 := Aside0.mk (blk_below (g := gb624) (o := .cells #[.int .i64 t621, .int .i64 t622] 36 (0, 0)) (g167_) hb); replace HB := Aside0.mk (below_step (spec_GetsOf.calls_q0) hb); (try clear hb); (try clear hk hi)) | ((with_reducible refine gate_dst (N := 15) rfl ?_); refine bx_ (N := 15) #[.int .i64 0, .int .i64 0] 36 ?_; intro gb628 hg w55 hbox hb; replace HO_6 := Aside0.mk (Kd.R_below (Kd.R_elderB (uf1_ HO_6) gb628 (Nat.le_of_eq hg.symm)) hb); replace HO_7 := Aside0.mk (Kd.R_below (uf1_ HO_7) hb); have BK628 := Aside0.mk (hbox); have GW628 := Aside0.mk ((g6_ : w.heap.size ≤ gb628)); have GE628 := Aside0.mk ((g6_ : w.heap.size ≤ gb628)); replace HB := Aside0.mk (below_step (spec_GetsOf.calls_q0) hb); have NB599_628 := Aside0.mk ((g25_ : gb599 ≠ gb628)); have NB628_599 := Aside0.mk ((g26_ : gb628 ≠ gb599)); replace BK599 := Aside0.mk (blk_below (g := gb599) (o := .cells #[.slice (some ad607) l0_0.length c0_0, .slice (some ad613) l0_1.length c0_1] 26 (0, 0)) (uf0_ BK599) hb); have NB608_628 := Aside0.mk ((g27_ : gb608 ≠ gb628)); have NB628_608 := Aside0.mk ((g28_ : gb628 ≠ gb608)); replace BK608 := Aside0.mk (blk_below (g := gb608) (o := .cells #[.int .i64 x609000_2, .int .i64 x609001_2] 36 (0, 0)) (uf0_ BK608) hb); have NB619_628 := Aside0.mk ((g39_ : gb619 ≠ gb628)); have NB628_619 := Aside0.mk ((g40_ : gb628 ≠ gb619)); replace BK619 := Aside0.mk (blk_below (g := gb619) (o := .cells #[.int .i64 t616, .int .i64 t617] 36 (0, 0)) (uf0_ BK619) hb); have NB624_628 := Aside0.mk ((g168_ : gb624 ≠ gb628)); have NB628_624 := Aside0.mk ((g169_ : gb628 ≠ gb624)); replace BK624 := Aside0.mk (blk_below (g := gb624) (o := .cells #[.int .i64 t621, .int .i64 t622] 36 (0, 0)) (uf0_ BK624) hb); clear hb hbox hg; have hnb56 := NB628_599.out; have hnc56 := NB599_628.out; have hnb57 := NB628_608.out; have hnc57 := NB608_628.out; have hnb58 := NB628_619.out; have hnc58 := NB619_628.out; have hnb59 := NB628_624.out; have hnc59 := NB624_628.out; obtain ⟨hcz60_0, hcz60_1, hfz60_0, hfz60_1⟩ := blk2_ BK628; obtain ⟨hcz61_0, hcz61_1, hfz61_0, hfz61_1⟩ := blk2_ BK608))
                  go_roundg k2
                  case measure => have := HK1.out; have := HK2.out; omega
                  case rel => exact ⟨(wrap64 (x10_2 + 1)), (t625), (t626), (g3_), H', ⟨g34_⟩, ⟨by (with_reducible repeat (first | apply Kd.R_alloc | apply Kd.R_drewN | apply Kd.R_drew)); exact Kd.R_mono (Kd.R_far (p := ⟨gb608, 1, none⟩) (Kd.R_far (p := ⟨gb608, 0, none⟩) (Kd.R_far (p := ⟨gb628, 1, none⟩) (Kd.R_far (p := ⟨gb628, 0, none⟩) (Kd.R_mono (Kd.R_mono HO_6.out (fun k_ hk => (⟨hk, hk.2⟩ : _ ∧ k_ ≠ gb628))) (fun k_ hk => (⟨hk, hk.1.1.1⟩ : _ ∧ k_ ≠ gb608))) (fun _ hk => hk.1.2) (.int .i64 t625)) (fun _ hk => hk.1.2) (.int .i64 t626)) (fun _ hk => hk.2) (.int .i64 t625)) (fun _ hk => hk.2) (.int .i64 t626)) (fun _ hk => hk.1.1.1.1)⟩, ⟨by (with_reducible repeat (first | apply Kd.R_alloc | apply Kd.R_drewN | apply Kd.R_drew)); exact Kd.R_mono (Kd.R_far (p := ⟨gb608, 1, none⟩) (Kd.R_far (p := ⟨gb608, 0, none⟩) (Kd.R_far (p := ⟨gb628, 1, none⟩) (Kd.R_far (p := ⟨gb628, 0, none⟩) (Kd.R_types (Kd.R_types HO_7.out BK628.out (by decide)) BK608.out (by decide)) (fun _ hk => hk.1.2) (.int .i64 t625)) (fun _ hk => hk.1.2) (.int .i64 t626)) (fun _ hk => hk.2) (.int .i64 t625)) (fun _ hk => hk.2) (.int .i64 t626)) (fun _ hk => trivial)⟩, ⟨by (with_reducible repeat (first | refine blk_drewN ?_ _ | refine blk_drew ?_ | refine blk_alloc ?_ _)); refine blk_far ?_ NB599_608.out _; (with_reducible repeat (first | refine blk_drewN ?_ _ | refine blk_drew ?_ | refine blk_alloc ?_ _)); refine blk_far ?_ NB599_608.out _; (with_reducible repeat (first | refine blk_drewN ?_ _ | refine blk_drew ?_ | refine blk_alloc ?_ _)); refine blk_far ?_ NB599_628.out _; (with_reducible repeat (first | refine blk_drewN ?_ _ | refine blk_drew ?_ | refine blk_alloc ?_ _)); refine blk_far ?_ NB599_628.out _; (with_reducible repeat (first | refine blk_drewN ?_ _ | refine blk_drew ?_ | refine blk_alloc ?_ _)); exact BK599.out⟩, ⟨by (with_reducible repeat (first | refine blk_drewN ?_ _ | refine blk_drew ?_ | refine blk_alloc ?_ _)); refine blk_put (cs := #[.int .i64 t625, .int .i64 x609001_2]) ?_ 1 _ rfl; (with_reducible repeat (first | refine blk_drewN ?_ _ | refine blk_drew ?_ | refine blk_alloc ?_ _)); refine blk_put (cs := #[.int .i64 x609000_2, .int .i64 x609001_2]) ?_ 0 _ rfl; (with_reducible repeat (first | refine blk_drewN ?_ _ | refine blk_drew ?_ | refine blk_alloc ?_ _)); refine blk_far ?_ NB608_628.out _; (with_reducible repeat (first | refine blk_drewN ?_ _ | refine blk_drew ?_ | refine blk_alloc ?_ _)); refine blk_far ?_ NB608_628.out _; (with_reducible repeat (first | refine blk_drewN ?_ _ | refine blk_drew ?_ | refine blk_alloc ?_ _)); exact BK608.out⟩, ⟨spec_GetsOf.calls_q0⟩⟩
                 ·replace c32 := Bool.eq_false_iff.mpr c32
                  subst c32
                  replace H := ifn_ H
                  obtain ⟨y629, hy629⟩ : ∃ y_ : List (S36), y_ = (([] : List (S36))) := ⟨_, rfl⟩
                  replace H : (some (y629, false)) = some (r1, r2) := by first | (rw [hy629]; with_reducible exact H) | (have H2_ := (Option.bind_some _ _).symm.trans H; rw [hy629]; with_reducible exact H2_) | (have H2_ := (Option.bind_some _ _).symm.trans H; with_reducible exact H2_) | with_reducible exact H | (rw [hy629]; exact H) | exact H
                  have Ny629 := Aside0.mk hy629
                  clear hy629
                  simp only [Option.some.injEq, Prod.mk.injEq] at H
                  obtain ⟨rfl, rfl⟩ := H
                  obtain ⟨Ao62, co62, eo62⟩ := Kd.R_slice HO_7.out
                  subst eo62
                  have p612 : 0 ≤ (x10_2 : Int) := of_decide_eq_true (g1_)
                  have q612 : x10_2 < (t604.length : Int) := of_decide_eq_true (g1_)
                  obtain ⟨ad612, e612, hx612_0⟩ := Kd.at_int (Kd.R_reads' HO_7.out).2.2 x10_2 p612 q612
                  cases e612
                  replace p612 := eq_true p612
                  replace q612 := eq_true q612
                  try go_wp2
                  replace HO_6 := Aside0.mk (Kd.R_drew HO_6.out)
                  replace HO_7 := Aside0.mk (Kd.R_drew HO_7.out)
                  replace BK599 := Aside0.mk (blk_drew BK599.out)
                  replace BK608 := Aside0.mk (blk_drew BK608.out)
                  replace HB := Aside0.mk (below_drew1 HB.out)
                  have p613 : 0 ≤ (x10_2 : Int) := of_decide_eq_true (g1_)
                  have q613 : x10_2 < (l0_1.length : Int) := of_decide_eq_true (g1_)
                  obtain ⟨ad613, A613_0, c613_0, e613, hx613_0, hl613_0, hi613_0⟩ := at_L2 HR0_1.out x10_2 p613 q613
                  have hw613_0 := hx613_0
                  cases e613
                  replace hx613_0 := cl_ HB hx613_0
                  have HR613_0 := Aside0.mk hi613_0
                  have HC613_0 := Aside0.mk hl613_0
                  clear hi613_0 hl613_0
                  replace p613 := eq_true p613
                  replace q613 := eq_true q613
                  have p614 : 0 ≤ (x8_1 : Int) := of_decide_eq_true (g1_)
                  have q614 : x8_1 < ((rd_L2 l0_1 x10_2).length : Int) := of_decide_eq_true (g1_)
                  obtain ⟨ad614, e614, hx614_0⟩ := Kd.at_int HR613_0.out x8_1 p614 q614
                  have hw614_0 := hx614_0
                  cases e614
                  replace hx614_0 := cl_ HB hx614_0
                  replace p614 := eq_true p614
                  replace q614 := eq_true q614
                  have p615 : 0 ≤ (x10_2 : Int) := of_decide_eq_true (g1_)
                  have q615 : x10_2 < (t604.length : Int) := of_decide_eq_true (g1_)
                  obtain ⟨ad615, e615, hx615_0⟩ := Kd.at_int (Kd.R_reads' HO_7.out).2.2 x10_2 p615 q615
                  obtain rfl : ad612 = ad615 := (by injection e615)
                  replace p615 := eq_true p615
                  replace q615 := eq_true q615
                  refine start_ (n := 19) (S := fun w' => w'.cell? ⟨gb599, 0, none⟩ = some (.slice (some ad607) l0_0.length c0_0) ∧ w'.cell? ⟨gb599, 1, none⟩ = some (.slice (some ad613) l0_1.length c0_1) ∧ w'.cell? (ad613.add (x10_2).toNat) = some (.slice (some ad614) (rd_L2 l0_1 x10_2).length c613_0) ∧ w'.cell? (ad614.add (x8_1).toNat) = some (.int .i64 (rd (rd_L2 l0_1 x10_2) x8_1)) ∧ w'.cell? (ad612.add (x10_2).toNat) = some (.int .i64 (rd t604 x10_2))) (ds := []) (tl_ 19 0) (g0_) rfl (g0_) ⟨(blk_cell BK599.out 0).trans rfl, (blk_cell BK599.out 1).trans rfl, ((cl_ HB hw613_0).trans rfl), ((cl_ HB hw614_0).trans rfl), hx615_0⟩ (fun hHeld => ?_); refine with_tabW spec_GetsOf.tab13 spec_GetsOf.bits13 (fun HT_ HW_ => ?_)
                  generalize wr.drew = w63 at HO_6 HO_7 BK599 BK608 HB HR613_0 hx613_0 hx614_0 hx615_0 hHeld ⊢
                  refine pw_ 0 49 (tl_ 19 1) rfl rfl ?_
                  refine pw_ 2 51 (tl_ 19 5) rfl rfl ?_
                  refine pw_ 5 54 (tl_ 19 37) rfl rfl ?_
                  refine pw_ 8 57 (tl_ 19 293) rfl rfl ?_
                  refine pw_ 9 58 (tl_ 19 805) rfl rfl ?_
                  refine pw_ 10 59 (tl_ 19 1829) rfl rfl ?_
                  refine tk5_ 1 50 (tl_ 19 1831) rfl rfl hHeld ?_
                  refine pw_ 3 52 (tl_ 19 1839) rfl rfl ?_
                  refine tk5_ 4 53 (tl_ 19 1855) rfl rfl hHeld ?_
                  refine pw_ 6 55 (tl_ 19 1919) rfl rfl ?_
                  refine tk5_ 7 56 (tl_ 19 2047) rfl rfl hHeld ?_
                  refine tk5_ 11 60 (tl_ 19 4095) rfl rfl hHeld ?_
                  refine join_ (σ := Nat) 2 (tl_ 19 131071) (fun s_ => [(61, .tuple #[.agg #[.int .i64 t616, .int .i64 t617], .bool t618]), (11, .pointer (some ⟨s_, 0, none⟩)), (48, .tuple #[.agg #[.int .i64 t616, .int .i64 t617], .bool t618]), (62, .agg #[.int .i64 t616, .int .i64 t617]), (63, .bool t618)]) (fun s_ w' => (w'.cell? ⟨gb599, 0, none⟩ = some (.slice (some ad607) l0_0.length c0_0) ∧ w'.cell? ⟨gb599, 1, none⟩ = some (.slice (some ad613) l0_1.length c0_1) ∧ w'.cell? (ad613.add (x10_2).toNat) = some (.slice (some ad614) (rd_L2 l0_1 x10_2).length c613_0) ∧ w'.cell? (ad614.add (x8_1).toNat) = some (.int .i64 (rd (rd_L2 l0_1 x10_2) x8_1)) ∧ w'.cell? (ad612.add (x10_2).toNat) = some (.int .i64 (rd t604 x10_2))) ∧ (Kd.R k36 36 w' w.heap.size (fun k_ => k_ ≠ gb608 ∧ k_ ≠ s_) u6 x6_1) ∧ (Kd.R (Kd.int .i64) 3 w' w.heap.size (fun _ => True) (.slice (some ad612) t604.length co62) t604) ∧ (w'.heap[gb599]? = some (.cells #[.slice (some ad607) l0_0.length c0_0, .slice (some ad613) l0_1.length c0_1] 26 (0, 0))) ∧ (w'.heap[gb608]? = some (.cells #[.int .i64 x609000_2, .int .i64 x609001_2] 36 (0, 0))) ∧ (w'.heap[s_]? = some (.cells #[.int .i64 0, .int .i64 0] 36 (0, 0))) ∧ (w.heap.size ≤ s_) ∧ (w.heap.size ≤ s_) ∧ (gb599 ≠ s_) ∧ (s_ ≠ gb599) ∧ (gb608 ≠ s_) ∧ (s_ ≠ gb608) ∧ (Below w.heap.size w w')) ?_ ?_
                  rotate_left
                  ·intro hCont
                   refine two_ (i := 12) (j := 16) (Ni := some 61) (Nj := some 11) (tl_ 19 8191) (tl_ 19 69631) rfl rfl rfl rfl (two_of HT_.out (g0_)) (by decide) (by decide) (fun K hK => ?_) (fun K hK => ?_)
                   ·skip
                    refine goes_ Try.func74 (g0_) rfl #[.int .i64 (rd (rd_L2 l0_1 x10_2) x8_1), .int .i64 (rd t604 x10_2)] (by rfl) rfl rfl (g2_) ?_
                    with_reducible refine (spec_FracOf.calls k2 (rd (rd_L2 l0_1 x10_2) x8_1) (rd t604 x10_2) t616 t617 t618 _ A28.out).mono ?_
                    rintro e w64 ⟨rfl, hb⟩
                    have HS4_ := (hb.cell (World.block_lt_of_cell? _ _ (hHeld.2.2.2.2))).trans (hHeld.2.2.2.2)
                    refine ⟨_, rfl, ?_⟩
                    replace HO_6 := Aside0.mk (Kd.R_below (uf1_ HO_6) hb)
                    replace HO_7 := Aside0.mk (Kd.R_below (uf1_ HO_7) hb)
                    replace BK599 := Aside0.mk (blk_below (g := gb599) (o := .cells #[.slice (some ad607) l0_0.length c0_0, .slice (some ad613) l0_1.length c0_1] 26 (0, 0)) (uf0_ BK599) hb)
                    replace BK608 := Aside0.mk (blk_below (g := gb608) (o := .cells #[.int .i64 x609000_2, .int .i64 x609001_2] 36 (0, 0)) (uf0_ BK608) hb)
                    replace HB := Aside0.mk (below_step (spec_GetsOf.calls_q0) hb)
                    (try clear hb)
                    (try clear hk hi)
                    refine hK.out _ _ ⟨(blk_cell BK599.out 0).trans rfl, (blk_cell BK599.out 1).trans rfl, ((cl_ HB hw613_0).trans rfl), ((cl_ HB hw614_0).trans rfl), HS4_⟩ (fun hHeld => ?_)
                    clear hK K
                    refine nm_ ?_
                    refine pw_ 13 48 (tl_ 19 16383) rfl rfl ?_
                    refine pw_ 14 62 (tl_ 19 32767) rfl rfl ?_
                    refine pw_ 15 63 (tl_ 19 65535) rfl rfl ?_
                    refine one_ (i := 16) (N := some 11) (tl_ 19 131071) rfl rfl (one_of HT_.out (g0_)) (by decide) (fun K hK => ?_)
                    refine box_step ?hg (N := 11) ?hd (cs := #[.int .i64 0, .int .i64 0]) (t := 36) ?hr ?_; (case hd => rfl); (case hg => rfl); (case hr => first | (go_simp; done) | (go_simp; rfl))
                    intro gb619 hg w65 hbox hb
                    have HS4_ := (hb.cell (World.block_lt_of_cell? _ _ (hHeld.2.2.2.2))).trans (hHeld.2.2.2.2)
                    replace HO_6 := Aside0.mk (Kd.R_below (Kd.R_elderB (uf1_ HO_6) gb619 (Nat.le_of_eq hg.symm)) hb)
                    replace HO_7 := Aside0.mk (Kd.R_below (uf1_ HO_7) hb)
                    have BK619 := Aside0.mk (hbox)
                    have GW619 := Aside0.mk ((g6_ : w.heap.size ≤ gb619))
                    have GE619 := Aside0.mk ((g6_ : w.heap.size ≤ gb619))
                    replace HB := Aside0.mk (below_step (spec_GetsOf.calls_q0) hb)
                    have NB599_619 := Aside0.mk ((g25_ : gb599 ≠ gb619))
                    have NB619_599 := Aside0.mk ((g26_ : gb619 ≠ gb599))
                    replace BK599 := Aside0.mk (blk_below (g := gb599) (o := .cells #[.slice (some ad607) l0_0.length c0_0, .slice (some ad613) l0_1.length c0_1] 26 (0, 0)) (uf0_ BK599) hb)
                    have NB608_619 := Aside0.mk ((g27_ : gb608 ≠ gb619))
                    have NB619_608 := Aside0.mk ((g28_ : gb619 ≠ gb608))
                    replace BK608 := Aside0.mk (blk_below (g := gb608) (o := .cells #[.int .i64 x609000_2, .int .i64 x609001_2] 36 (0, 0)) (uf0_ BK608) hb)
                    clear hb hbox hg
                    refine hK.out _ _ ⟨(blk_cell BK599.out 0).trans rfl, (blk_cell BK599.out 1).trans rfl, ((cl_ HB hw613_0).trans rfl), ((cl_ HB hw614_0).trans rfl), HS4_⟩ (fun hHeld => ?_)
                    clear hK K
                    refine nm_ ?_
                    exact norm_ (g8_) (hCont (gb619) _ ⟨hHeld, (uf1_ HO_6), (uf1_ HO_7), (uf0_ BK599), (uf0_ BK608), (uf0_ BK619), GW619.out, GE619.out, NB599_619.out, NB619_599.out, NB608_619.out, NB619_608.out, (spec_GetsOf.calls_q0)⟩)
                   ·skip
                    refine box_step ?hg (N := 11) ?hd (cs := #[.int .i64 0, .int .i64 0]) (t := 36) ?hr ?_; (case hd => rfl); (case hg => rfl); (case hr => first | (go_simp; done) | (go_simp; rfl))
                    intro gb619 hg w64 hbox hb
                    have HS4_ := (hb.cell (World.block_lt_of_cell? _ _ (hHeld.2.2.2.2))).trans (hHeld.2.2.2.2)
                    replace HO_6 := Aside0.mk (Kd.R_below (Kd.R_elderB (uf1_ HO_6) gb619 (Nat.le_of_eq hg.symm)) hb)
                    replace HO_7 := Aside0.mk (Kd.R_below (uf1_ HO_7) hb)
                    have BK619 := Aside0.mk (hbox)
                    have GW619 := Aside0.mk ((g6_ : w.heap.size ≤ gb619))
                    have GE619 := Aside0.mk ((g6_ : w.heap.size ≤ gb619))
                    replace HB := Aside0.mk (below_step (spec_GetsOf.calls_q0) hb)
                    have NB599_619 := Aside0.mk ((g25_ : gb599 ≠ gb619))
                    have NB619_599 := Aside0.mk ((g26_ : gb619 ≠ gb599))
                    replace BK599 := Aside0.mk (blk_below (g := gb599) (o := .cells #[.slice (some ad607) l0_0.length c0_0, .slice (some ad613) l0_1.length c0_1] 26 (0, 0)) (uf0_ BK599) hb)
                    have NB608_619 := Aside0.mk ((g27_ : gb608 ≠ gb619))
                    have NB619_608 := Aside0.mk ((g28_ : gb619 ≠ gb608))
                    replace BK608 := Aside0.mk (blk_below (g := gb608) (o := .cells #[.int .i64 x609000_2, .int .i64 x609001_2] 36 (0, 0)) (uf0_ BK608) hb)
                    clear hb hbox hg
                    refine hK.out _ _ ⟨(blk_cell BK599.out 0).trans rfl, (blk_cell BK599.out 1).trans rfl, ((cl_ HB hw613_0).trans rfl), ((cl_ HB hw614_0).trans rfl), HS4_⟩ (fun hHeld => ?_)
                    clear hK K
                    refine nm_ ?_
                    refine one_ (i := 12) (N := some 61) (tl_ 19 73727) rfl rfl (one_of HT_.out (g0_)) (by decide) (fun K hK => ?_)
                    refine goes_ Try.func74 (g0_) rfl #[.int .i64 (rd (rd_L2 l0_1 x10_2) x8_1), .int .i64 (rd t604 x10_2)] (by rfl) rfl rfl (g2_) ?_
                    with_reducible refine (spec_FracOf.calls k2 (rd (rd_L2 l0_1 x10_2) x8_1) (rd t604 x10_2) t616 t617 t618 _ A28.out).mono ?_
                    rintro e w65 ⟨rfl, hb⟩
                    have HS4_ := (hb.cell (World.block_lt_of_cell? _ _ (hHeld.2.2.2.2))).trans (hHeld.2.2.2.2)
                    refine ⟨_, rfl, ?_⟩
                    replace HO_6 := Aside0.mk (Kd.R_below (uf1_ HO_6) hb)
                    replace HO_7 := Aside0.mk (Kd.R_below (uf1_ HO_7) hb)
                    replace BK599 := Aside0.mk (blk_below (g := gb599) (o := .cells #[.slice (some ad607) l0_0.length c0_0, .slice (some ad613) l0_1.length c0_1] 26 (0, 0)) (uf0_ BK599) hb)
                    replace BK608 := Aside0.mk (blk_below (g := gb608) (o := .cells #[.int .i64 x609000_2, .int .i64 x609001_2] 36 (0, 0)) (uf0_ BK608) hb)
                    replace BK619 := Aside0.mk (blk_below (g := gb619) (o := .cells #[.int .i64 0, .int .i64 0] 36 (0, 0)) (uf0_ BK619) hb)
                    replace HB := Aside0.mk (below_step (spec_GetsOf.calls_q0) hb)
                    (try clear hb)
                    (try clear hk hi)
                    refine hK.out _ _ ⟨(blk_cell BK599.out 0).trans rfl, (blk_cell BK599.out 1).trans rfl, ((cl_ HB hw613_0).trans rfl), ((cl_ HB hw614_0).trans rfl), HS4_⟩ (fun hHeld => ?_)
                    clear hK K
                    refine nm_ ?_
                    refine pw_ 13 48 (tl_ 19 81919) rfl rfl ?_
                    refine pw_ 14 62 (tl_ 19 98303) rfl rfl ?_
                    refine pw_ 15 63 (tl_ 19 131071) rfl rfl ?_
                    exact norm_ (g8_) (hCont (gb619) _ ⟨hHeld, (uf1_ HO_6), (uf1_ HO_7), (uf0_ BK599), (uf0_ BK608), (uf0_ BK619), GW619.out, GE619.out, NB599_619.out, NB619_599.out, NB608_619.out, NB619_608.out, (spec_GetsOf.calls_q0)⟩)
                  rintro gb619 w66 ⟨hS_, h0_, h1_, h2_, h3_, h4_, h5_, h6_, h7_, h8_, h9_, h10_, h11_⟩
                  replace HO_6 : Aside0 (Kd.R k36 36 w66 w.heap.size (fun k_ => k_ ≠ gb608 ∧ k_ ≠ gb619) u6 x6_1) := ⟨h0_⟩
                  replace HO_7 : Aside0 (Kd.R (Kd.int .i64) 3 w66 w.heap.size (fun _ => True) (.slice (some ad612) t604.length co62) t604) := ⟨h1_⟩
                  replace BK599 : Aside0 (w66.heap[gb599]? = some (.cells #[.slice (some ad607) l0_0.length c0_0, .slice (some ad613) l0_1.length c0_1] 26 (0, 0))) := ⟨h2_⟩
                  replace BK608 : Aside0 (w66.heap[gb608]? = some (.cells #[.int .i64 x609000_2, .int .i64 x609001_2] 36 (0, 0))) := ⟨h3_⟩
                  have BK619 : Aside0 (w66.heap[gb619]? = some (.cells #[.int .i64 0, .int .i64 0] 36 (0, 0))) := ⟨h4_⟩
                  have GW619 : Aside0 (w.heap.size ≤ gb619) := ⟨h5_⟩
                  have GE619 : Aside0 (w.heap.size ≤ gb619) := ⟨h6_⟩
                  have NB599_619 : Aside0 (gb599 ≠ gb619) := ⟨h7_⟩
                  have NB619_599 : Aside0 (gb619 ≠ gb599) := ⟨h8_⟩
                  have NB608_619 : Aside0 (gb608 ≠ gb619) := ⟨h9_⟩
                  have NB619_608 : Aside0 (gb619 ≠ gb608) := ⟨h10_⟩
                  replace HB : Aside0 (Below w.heap.size w w66) := ⟨h11_⟩
                  clear h0_ h1_ h2_ h3_ h4_ h5_ h6_ h7_ h8_ h9_ h10_ h11_
                  have hHeld : w66.cell? ⟨gb599, 0, none⟩ = some (.slice (some ad607) l0_0.length c0_0) ∧ w66.cell? ⟨gb599, 1, none⟩ = some (.slice (some ad613) l0_1.length c0_1) ∧ w66.cell? (ad613.add (x10_2).toNat) = some (.slice (some ad614) (rd_L2 l0_1 x10_2).length c613_0) ∧ w66.cell? (ad614.add (x8_1).toNat) = some (.int .i64 (rd (rd_L2 l0_1 x10_2) x8_1)) ∧ w66.cell? (ad612.add (x10_2).toNat) = some (.int .i64 (rd t604 x10_2)) := hS_
                  refine norm_ (a' := ?_) ?_ ?_
                  rotate_left
                  ·simp only [putAll, Act.put, List.setIfInBounds_toArray, List.set_cons_zero, List.set_cons_succ]
                   rfl
                  refine one_ (i := 17) (N := none) (tl_ 19 262143) rfl rfl (one_of HT_.out (g0_)) (by decide) (fun K hK => ?_)
                  have hs67 : w66.cell? ⟨gb619, 0, none⟩ = some (.int .i64 0) := (blk_cell BK619.out 0).trans rfl
                  have hfs67 := blk_frozen BK619.out 0
                  have hns67_0 := NB599_619.out
                  have hns67_1 := NB608_619.out
                  have hms67_0 := NB619_599.out
                  have hms67_1 := NB619_608.out
                  have hs68 : w66.cell? ⟨gb619, 1, none⟩ = some (.int .i64 0) := (blk_cell BK619.out 1).trans rfl
                  have hfs68 := blk_frozen BK619.out 1
                  have hns68_0 := NB599_619.out
                  have hns68_1 := NB608_619.out
                  have hms68_0 := NB619_599.out
                  have hms68_1 := NB619_608.out
                  refine skip_ (w1 := ?_) (by rfl) rfl ?_ ?_
                  rotate_left
                  ·go_simp
                   rfl
                  refine hK.out _ _ ⟨((cell_far (p := ⟨gb619, _, none⟩) NB599_619.out _).trans (((cell_far (p := ⟨gb619, _, none⟩) NB599_619.out _).trans (hHeld.1)))), ((cell_far (p := ⟨gb619, _, none⟩) NB599_619.out _).trans (((cell_far (p := ⟨gb619, _, none⟩) NB599_619.out _).trans (hHeld.2.1)))), ((cell_far (p := ⟨gb619, _, none⟩) (by first | exact Nat.ne_of_lt (Nat.lt_of_lt_of_le (by have := World.block_lt_of_cell? _ _ hw613_0; first | rwa [add_block] at this | exact this) GW619.out) | (rw [add_block]; exact Nat.ne_of_lt (Nat.lt_of_lt_of_le (by have := World.block_lt_of_cell? _ _ hw613_0; first | rwa [add_block] at this | exact this) GW619.out)) | (show (Addr.add _ _).block ≠ _; rw [add_block]; exact Nat.ne_of_lt (Nat.lt_of_lt_of_le (by have := World.block_lt_of_cell? _ _ hw613_0; first | rwa [add_block] at this | exact this) GW619.out)) | (dsimp only; exact Nat.ne_of_lt (Nat.lt_of_lt_of_le (by have := World.block_lt_of_cell? _ _ hw613_0; first | rwa [add_block] at this | exact this) GW619.out))) _).trans (((cell_far (p := ⟨gb619, _, none⟩) (by first | exact Nat.ne_of_lt (Nat.lt_of_lt_of_le (by have := World.block_lt_of_cell? _ _ hw613_0; first | rwa [add_block] at this | exact this) GW619.out) | (rw [add_block]; exact Nat.ne_of_lt (Nat.lt_of_lt_of_le (by have := World.block_lt_of_cell? _ _ hw613_0; first | rwa [add_block] at this | exact this) GW619.out)) | (show (Addr.add _ _).block ≠ _; rw [add_block]; exact Nat.ne_of_lt (Nat.lt_of_lt_of_le (by have := World.block_lt_of_cell? _ _ hw613_0; first | rwa [add_block] at this | exact this) GW619.out)) | (dsimp only; exact Nat.ne_of_lt (Nat.lt_of_lt_of_le (by have := World.block_lt_of_cell? _ _ hw613_0; first | rwa [add_block] at this | exact this) GW619.out))) _).trans (hHeld.2.2.1)))), ((cell_far (p := ⟨gb619, _, none⟩) (by first | exact Nat.ne_of_lt (Nat.lt_of_lt_of_le (by have := World.block_lt_of_cell? _ _ hw614_0; first | rwa [add_block] at this | exact this) GW619.out) | (rw [add_block]; exact Nat.ne_of_lt (Nat.lt_of_lt_of_le (by have := World.block_lt_of_cell? _ _ hw614_0; first | rwa [add_block] at this | exact this) GW619.out)) | (show (Addr.add _ _).block ≠ _; rw [add_block]; exact Nat.ne_of_lt (Nat.lt_of_lt_of_le (by have := World.block_lt_of_cell? _ _ hw614_0; first | rwa [add_block] at this | exact this) GW619.out)) | (dsimp only; exact Nat.ne_of_lt (Nat.lt_of_lt_of_le (by have := World.block_lt_of_cell? _ _ hw614_0; first | rwa [add_block] at this | exact this) GW619.out))) _).trans (((cell_far (p := ⟨gb619, _, none⟩) (by first | exact Nat.ne_of_lt (Nat.lt_of_lt_of_le (by have := World.block_lt_of_cell? _ _ hw614_0; first | rwa [add_block] at this | exact this) GW619.out) | (rw [add_block]; exact Nat.ne_of_lt (Nat.lt_of_lt_of_le (by have := World.block_lt_of_cell? _ _ hw614_0; first | rwa [add_block] at this | exact this) GW619.out)) | (show (Addr.add _ _).block ≠ _; rw [add_block]; exact Nat.ne_of_lt (Nat.lt_of_lt_of_le (by have := World.block_lt_of_cell? _ _ hw614_0; first | rwa [add_block] at this | exact this) GW619.out)) | (dsimp only; exact Nat.ne_of_lt (Nat.lt_of_lt_of_le (by have := World.block_lt_of_cell? _ _ hw614_0; first | rwa [add_block] at this | exact this) GW619.out))) _).trans (hHeld.2.2.2.1)))), ((cell_far (p := ⟨gb619, _, none⟩) (g72_) _).trans (((cell_far (p := ⟨gb619, _, none⟩) (g72_) _).trans (hHeld.2.2.2.2))))⟩ (fun hHeld => ?_)
                  clear hK K
                  refine pw_ 18 12 (tl_ 19 524287) rfl rfl ?_
                  refine done_ (done_of HT_.out (g0_)) ?_
                  try go_wp2
                  have n0_ : Aside0 (Kd.R k36 36 ((w66.setCell ⟨gb619, 0, none⟩ (.int .i64 t616)).setCell ⟨gb619, 1, none⟩ (.int .i64 t617)) w.heap.size (fun k_ => k_ ≠ gb608 ∧ k_ ≠ gb619) u6 x6_1) := ⟨g157_⟩
                  have n1_ : Aside0 (Kd.R (Kd.int .i64) 3 ((w66.setCell ⟨gb619, 0, none⟩ (.int .i64 t616)).setCell ⟨gb619, 1, none⟩ (.int .i64 t617)) w.heap.size (fun _ => True) (.slice (some ad612) t604.length co62) t604) := ⟨g158_⟩
                  have n2_ : Aside0 (((w66.setCell ⟨gb619, 0, none⟩ (.int .i64 t616)).setCell ⟨gb619, 1, none⟩ (.int .i64 t617)).heap[gb599]? = some (.cells #[.slice (some ad607) l0_0.length c0_0, .slice (some ad613) l0_1.length c0_1] 26 (0, 0))) := ⟨g159_⟩
                  have n3_ : Aside0 (((w66.setCell ⟨gb619, 0, none⟩ (.int .i64 t616)).setCell ⟨gb619, 1, none⟩ (.int .i64 t617)).heap[gb608]? = some (.cells #[.int .i64 x609000_2, .int .i64 x609001_2] 36 (0, 0))) := ⟨g160_⟩
                  have n4_ : Aside0 (((w66.setCell ⟨gb619, 0, none⟩ (.int .i64 t616)).setCell ⟨gb619, 1, none⟩ (.int .i64 t617)).heap[gb619]? = some (.cells #[.int .i64 t616, .int .i64 t617] 36 (0, 0))) := ⟨g161_⟩
                  have n5_ : Aside0 (Below w.heap.size w ((w66.setCell ⟨gb619, 0, none⟩ (.int .i64 t616)).setCell ⟨gb619, 1, none⟩ (.int .i64 t617))) := ⟨spec_GetsOf.calls_q0⟩
                  (try clear HO_6)
                  (try clear HO_7)
                  (try clear BK599)
                  (try clear BK608)
                  (try clear BK619)
                  (try clear HB)
                  generalize ((w66.setCell ⟨gb619, 0, none⟩ (.int .i64 t616)).setCell ⟨gb619, 1, none⟩ (.int .i64 t617)) = w69 at n0_ n1_ n2_ n3_ n4_ n5_ ⊢
                  have HO_6 := n0_
                  have HO_7 := n1_
                  have BK599 := n2_
                  have BK608 := n3_
                  have BK619 := n4_
                  have HB := n5_
                  clear n0_ n1_ n2_ n3_ n4_ n5_
                  replace HO_6 := Aside0.mk (Kd.R_drew HO_6.out)
                  replace HO_7 := Aside0.mk (Kd.R_drew HO_7.out)
                  replace BK599 := Aside0.mk (blk_drew BK599.out)
                  replace BK608 := Aside0.mk (blk_drew BK608.out)
                  replace BK619 := Aside0.mk (blk_drew BK619.out)
                  replace HB := Aside0.mk (below_drew1 HB.out)
                  have p620 : 0 ≤ (x10_2 : Int) := of_decide_eq_true (g1_)
                  have q620 : x10_2 < (l1.length : Int) := of_decide_eq_true (g1_)
                  obtain ⟨ad620, e620, hx620_0, hx620_1⟩ := at_T36 HR1.out x10_2 p620 q620
                  have hw620_1 := hx620_1
                  have hw620_0 := hx620_0
                  cases e620
                  replace hx620_0 := cl_ HB hx620_0
                  replace hx620_1 := cl_ HB hx620_1
                  replace p620 := eq_true p620
                  replace q620 := eq_true q620
                  refine start_ (n := 12) (S := fun w' => w'.cell? ⟨gb619, 0, none⟩ = some (.int .i64 t616) ∧ w'.cell? ⟨gb619, 1, none⟩ = some (.int .i64 t617) ∧ w'.cell? (ad620.add ((x10_2).toNat * 2)) = some (.int .i64 ((rd_T36 l1 x10_2).f0)) ∧ w'.cell? ⟨(ad620.add ((x10_2).toNat * 2)).block, (ad620.add ((x10_2).toNat * 2)).off + 1, none⟩ = some (.int .i64 ((rd_T36 l1 x10_2).f1))) (ds := []) (tl_ 12 0) (g0_) rfl (g0_) ⟨(blk_cell BK619.out 0).trans rfl, (blk_cell BK619.out 1).trans rfl, ((cl_ HB hw620_0).trans rfl), ((cl_ HB hw620_1).trans rfl)⟩ (fun hHeld => ?_); refine with_tabW spec_GetsOf.tab14 spec_GetsOf.bits14 (fun HT_ HW_ => ?_)
                  generalize w69.drew = w70 at HO_6 HO_7 BK599 BK608 BK619 HB hx620_0 hx620_1 hHeld ⊢
                  refine pw_ 0 65 (tl_ 12 1) rfl rfl ?_
                  refine pw_ 1 66 (tl_ 12 3) rfl rfl ?_
                  refine pw_ 2 67 (tl_ 12 7) rfl rfl ?_
                  refine tk3_ 3 68 (tl_ 12 15) rfl rfl hHeld ?_
                  refine tk3_ 4 69 (tl_ 12 31) rfl rfl hHeld ?_
                  refine join_ (σ := Nat) 2 (tl_ 12 1023) (fun s_ => [(70, .tuple #[.agg #[.int .i64 t621, .int .i64 t622], .bool true]), (13, .pointer (some ⟨s_, 0, none⟩)), (64, .tuple #[.agg #[.int .i64 t621, .int .i64 t622], .bool true]), (71, .agg #[.int .i64 t621, .int .i64 t622]), (72, .bool true)]) (fun s_ w' => (w'.cell? ⟨gb619, 0, none⟩ = some (.int .i64 t616) ∧ w'.cell? ⟨gb619, 1, none⟩ = some (.int .i64 t617) ∧ w'.cell? (ad620.add ((x10_2).toNat * 2)) = some (.int .i64 ((rd_T36 l1 x10_2).f0)) ∧ w'.cell? ⟨(ad620.add ((x10_2).toNat * 2)).block, (ad620.add ((x10_2).toNat * 2)).off + 1, none⟩ = some (.int .i64 ((rd_T36 l1 x10_2).f1))) ∧ (Kd.R k36 36 w' w.heap.size (fun k_ => k_ ≠ gb608 ∧ k_ ≠ gb619 ∧ k_ ≠ s_) u6 x6_1) ∧ (Kd.R (Kd.int .i64) 3 w' w.heap.size (fun _ => True) (.slice (some ad612) t604.length co62) t604) ∧ (w'.heap[gb599]? = some (.cells #[.slice (some ad607) l0_0.length c0_0, .slice (some ad613) l0_1.length c0_1] 26 (0, 0))) ∧ (w'.heap[gb608]? = some (.cells #[.int .i64 x609000_2, .int .i64 x609001_2] 36 (0, 0))) ∧ (w'.heap[gb619]? = some (.cells #[.int .i64 t616, .int .i64 t617] 36 (0, 0))) ∧ (w'.heap[s_]? = some (.cells #[.int .i64 0, .int .i64 0] 36 (0, 0))) ∧ (w.heap.size ≤ s_) ∧ (w.heap.size ≤ s_) ∧ (gb599 ≠ s_) ∧ (s_ ≠ gb599) ∧ (gb608 ≠ s_) ∧ (s_ ≠ gb608) ∧ (gb619 ≠ s_) ∧ (s_ ≠ gb619) ∧ (Below w.heap.size w w')) ?_ ?_
                  rotate_left
                  ·intro hCont
                   refine two_ (i := 5) (j := 9) (Ni := some 70) (Nj := some 13) (tl_ 12 63) (tl_ 12 543) rfl rfl rfl rfl (two_of HT_.out (g0_)) (by decide) (by decide) (fun K hK => ?_) (fun K hK => ?_)
                   ·skip
                    refine goes_ Try.func75 (g0_) rfl #[.agg #[.int .i64 ((rd_T36 l1 x10_2).f0), .int .i64 ((rd_T36 l1 x10_2).f1)], .agg #[.int .i64 t616, .int .i64 t617]] (by rfl) rfl rfl (g2_) ?_
                    with_reducible refine (spec_TimesOf.calls k2 ((rd_T36 l1 x10_2).f0) ((rd_T36 l1 x10_2).f1) t616 t617 t621 t622 true _ A29.out).mono ?_
                    rintro e w71 ⟨rfl, hb⟩
                    refine ⟨_, rfl, ?_⟩
                    replace HO_6 := Aside0.mk (Kd.R_below (uf1_ HO_6) hb)
                    replace HO_7 := Aside0.mk (Kd.R_below (uf1_ HO_7) hb)
                    replace BK599 := Aside0.mk (blk_below (g := gb599) (o := .cells #[.slice (some ad607) l0_0.length c0_0, .slice (some ad613) l0_1.length c0_1] 26 (0, 0)) (uf0_ BK599) hb)
                    replace BK608 := Aside0.mk (blk_below (g := gb608) (o := .cells #[.int .i64 x609000_2, .int .i64 x609001_2] 36 (0, 0)) (uf0_ BK608) hb)
                    replace BK619 := Aside0.mk (blk_below (g := gb619) (o := .cells #[.int .i64 t616, .int .i64 t617] 36 (0, 0)) (uf0_ BK619) hb)
                    replace HB := Aside0.mk (below_step (spec_GetsOf.calls_q0) hb)
                    (try clear hb)
                    (try clear hk hi)
                    refine hK.out _ _ ⟨(blk_cell BK619.out 0).trans rfl, (blk_cell BK619.out 1).trans rfl, ((cl_ HB hw620_0).trans rfl), ((cl_ HB hw620_1).trans rfl)⟩ (fun hHeld => ?_)
                    clear hK K
                    refine nm_ ?_
                    refine pw_ 6 64 (tl_ 12 127) rfl rfl ?_
                    refine pw_ 7 71 (tl_ 12 255) rfl rfl ?_
                    refine pw_ 8 72 (tl_ 12 511) rfl rfl ?_
                    refine one_ (i := 9) (N := some 13) (tl_ 12 1023) rfl rfl (one_of HT_.out (g0_)) (by decide) (fun K hK => ?_)
                    refine box_step ?hg (N := 13) ?hd (cs := #[.int .i64 0, .int .i64 0]) (t := 36) ?hr ?_; (case hd => rfl); (case hg => rfl); (case hr => first | (go_simp; done) | (go_simp; rfl))
                    intro gb624 hg w72 hbox hb
                    replace HO_6 := Aside0.mk (Kd.R_below (Kd.R_elderB (uf1_ HO_6) gb624 (Nat.le_of_eq hg.symm)) hb)
                    replace HO_7 := Aside0.mk (Kd.R_below (uf1_ HO_7) hb)
                    have BK624 := Aside0.mk (hbox)
                    have GW624 := Aside0.mk ((g6_ : w.heap.size ≤ gb624))
                    have GE624 := Aside0.mk ((g6_ : w.heap.size ≤ gb624))
                    replace HB := Aside0.mk (below_step (spec_GetsOf.calls_q0) hb)
                    have NB599_624 := Aside0.mk ((g25_ : gb599 ≠ gb624))
                    have NB624_599 := Aside0.mk ((g26_ : gb624 ≠ gb599))
                    replace BK599 := Aside0.mk (blk_below (g := gb599) (o := .cells #[.slice (some ad607) l0_0.length c0_0, .slice (some ad613) l0_1.length c0_1] 26 (0, 0)) (uf0_ BK599) hb)
                    have NB608_624 := Aside0.mk ((g27_ : gb608 ≠ gb624))
                    have NB624_608 := Aside0.mk ((g28_ : gb624 ≠ gb608))
                    replace BK608 := Aside0.mk (blk_below (g := gb608) (o := .cells #[.int .i64 x609000_2, .int .i64 x609001_2] 36 (0, 0)) (uf0_ BK608) hb)
                    have NB619_624 := Aside0.mk ((g39_ : gb619 ≠ gb624))
                    have NB624_619 := Aside0.mk ((g40_ : gb624 ≠ gb619))
                    replace BK619 := Aside0.mk (blk_below (g := gb619) (o := .cells #[.int .i64 t616, .int .i64 t617] 36 (0, 0)) (uf0_ BK619) hb)
                    clear hb hbox hg
                    refine hK.out _ _ ⟨(blk_cell BK619.out 0).trans rfl, (blk_cell BK619.out 1).trans rfl, ((cl_ HB hw620_0).trans rfl), ((cl_ HB hw620_1).trans rfl)⟩ (fun hHeld => ?_)
                    clear hK K
                    refine nm_ ?_
                    exact norm_ (g8_) (hCont (gb624) _ ⟨hHeld, (g73_), (uf1_ HO_7), (uf0_ BK599), (uf0_ BK608), (uf0_ BK619), (uf0_ BK624), GW624.out, GE624.out, NB599_624.out, NB624_599.out, NB608_624.out, NB624_608.out, NB619_624.out, NB624_619.out, (spec_GetsOf.calls_q0)⟩)
                   ·skip
                    refine box_step ?hg (N := 13) ?hd (cs := #[.int .i64 0, .int .i64 0]) (t := 36) ?hr ?_; (case hd => rfl); (case hg => rfl); (case hr => first | (go_simp; done) | (go_simp; rfl))
                    intro gb624 hg w71 hbox hb
                    replace HO_6 := Aside0.mk (Kd.R_below (Kd.R_elderB (uf1_ HO_6) gb624 (Nat.le_of_eq hg.symm)) hb)
                    replace HO_7 := Aside0.mk (Kd.R_below (uf1_ HO_7) hb)
                    have BK624 := Aside0.mk (hbox)
                    have GW624 := Aside0.mk ((g6_ : w.heap.size ≤ gb624))
                    have GE624 := Aside0.mk ((g6_ : w.heap.size ≤ gb624))
                    replace HB := Aside0.mk (below_step (spec_GetsOf.calls_q0) hb)
                    have NB599_624 := Aside0.mk ((g25_ : gb599 ≠ gb624))
                    have NB624_599 := Aside0.mk ((g26_ : gb624 ≠ gb599))
                    replace BK599 := Aside0.mk (blk_below (g := gb599) (o := .cells #[.slice (some ad607) l0_0.length c0_0, .slice (some ad613) l0_1.length c0_1] 26 (0, 0)) (uf0_ BK599) hb)
                    have NB608_624 := Aside0.mk ((g27_ : gb608 ≠ gb624))
                    have NB624_608 := Aside0.mk ((g28_ : gb624 ≠ gb608))
                    replace BK608 := Aside0.mk (blk_below (g := gb608) (o := .cells #[.int .i64 x609000_2, .int .i64 x609001_2] 36 (0, 0)) (uf0_ BK608) hb)
                    have NB619_624 := Aside0.mk ((g39_ : gb619 ≠ gb624))
                    have NB624_619 := Aside0.mk ((g40_ : gb624 ≠ gb619))
                    replace BK619 := Aside0.mk (blk_below (g := gb619) (o := .cells #[.int .i64 t616, .int .i64 t617] 36 (0, 0)) (uf0_ BK619) hb)
                    clear hb hbox hg
                    refine hK.out _ _ ⟨(blk_cell BK619.out 0).trans rfl, (blk_cell BK619.out 1).trans rfl, ((cl_ HB hw620_0).trans rfl), ((cl_ HB hw620_1).trans rfl)⟩ (fun hHeld => ?_)
                    clear hK K
                    refine nm_ ?_
                    refine one_ (i := 5) (N := some 70) (tl_ 12 575) rfl rfl (one_of HT_.out (g0_)) (by decide) (fun K hK => ?_)
                    refine goes_ Try.func75 (g0_) rfl #[.agg #[.int .i64 ((rd_T36 l1 x10_2).f0), .int .i64 ((rd_T36 l1 x10_2).f1)], .agg #[.int .i64 t616, .int .i64 t617]] (by rfl) rfl rfl (g2_) ?_
                    with_reducible refine (spec_TimesOf.calls k2 ((rd_T36 l1 x10_2).f0) ((rd_T36 l1 x10_2).f1) t616 t617 t621 t622 true _ A29.out).mono ?_
                    rintro e w72 ⟨rfl, hb⟩
                    refine ⟨_, rfl, ?_⟩
                    replace HO_6 := Aside0.mk (Kd.R_below (uf1_ HO_6) hb)
                    replace HO_7 := Aside0.mk (Kd.R_below (uf1_ HO_7) hb)
                    replace BK599 := Aside0.mk (blk_below (g := gb599) (o := .cells #[.slice (some ad607) l0_0.length c0_0, .slice (some ad613) l0_1.length c0_1] 26 (0, 0)) (uf0_ BK599) hb)
                    replace BK608 := Aside0.mk (blk_below (g := gb608) (o := .cells #[.int .i64 x609000_2, .int .i64 x609001_2] 36 (0, 0)) (uf0_ BK608) hb)
                    replace BK619 := Aside0.mk (blk_below (g := gb619) (o := .cells #[.int .i64 t616, .int .i64 t617] 36 (0, 0)) (uf0_ BK619) hb)
                    replace BK624 := Aside0.mk (blk_below (g := gb624) (o := .cells #[.int .i64 0, .int .i64 0] 36 (0, 0)) (uf0_ BK624) hb)
                    replace HB := Aside0.mk (below_step (spec_GetsOf.calls_q0) hb)
                    (try clear hb)
                    (try clear hk hi)
                    refine hK.out _ _ ⟨(blk_cell BK619.out 0).trans rfl, (blk_cell BK619.out 1).trans rfl, ((cl_ HB hw620_0).trans rfl), ((cl_ HB hw620_1).trans rfl)⟩ (fun hHeld => ?_)
                    clear hK K
                    refine nm_ ?_
                    refine pw_ 6 64 (tl_ 12 639) rfl rfl ?_
                    refine pw_ 7 71 (tl_ 12 767) rfl rfl ?_
                    refine pw_ 8 72 (tl_ 12 1023) rfl rfl ?_
                    exact norm_ (g8_) (hCont (gb624) _ ⟨hHeld, (g73_), (uf1_ HO_7), (uf0_ BK599), (uf0_ BK608), (uf0_ BK619), (uf0_ BK624), GW624.out, GE624.out, NB599_624.out, NB624_599.out, NB608_624.out, NB624_608.out, NB619_624.out, NB624_619.out, (spec_GetsOf.calls_q0)⟩)
                  rintro gb624 w73 ⟨hS_, h0_, h1_, h2_, h3_, h4_, h5_, h6_, h7_, h8_, h9_, h10_, h11_, h12_, h13_, h14_⟩
                  replace HO_6 : Aside0 (Kd.R k36 36 w73 w.heap.size (fun k_ => k_ ≠ gb608 ∧ k_ ≠ gb619 ∧ k_ ≠ gb624) u6 x6_1) := ⟨h0_⟩
                  replace HO_7 : Aside0 (Kd.R (Kd.int .i64) 3 w73 w.heap.size (fun _ => True) (.slice (some ad612) t604.length co62) t604) := ⟨h1_⟩
                  replace BK599 : Aside0 (w73.heap[gb599]? = some (.cells #[.slice (some ad607) l0_0.length c0_0, .slice (some ad613) l0_1.length c0_1] 26 (0, 0))) := ⟨h2_⟩
                  replace BK608 : Aside0 (w73.heap[gb608]? = some (.cells #[.int .i64 x609000_2, .int .i64 x609001_2] 36 (0, 0))) := ⟨h3_⟩
                  replace BK619 : Aside0 (w73.heap[gb619]? = some (.cells #[.int .i64 t616, .int .i64 t617] 36 (0, 0))) := ⟨h4_⟩
                  have BK624 : Aside0 (w73.heap[gb624]? = some (.cells #[.int .i64 0, .int .i64 0] 36 (0, 0))) := ⟨h5_⟩
                  have GW624 : Aside0 (w.heap.size ≤ gb624) := ⟨h6_⟩
                  have GE624 : Aside0 (w.heap.size ≤ gb624) := ⟨h7_⟩
                  have NB599_624 : Aside0 (gb599 ≠ gb624) := ⟨h8_⟩
                  have NB624_599 : Aside0 (gb624 ≠ gb599) := ⟨h9_⟩
                  have NB608_624 : Aside0 (gb608 ≠ gb624) := ⟨h10_⟩
                  have NB624_608 : Aside0 (gb624 ≠ gb608) := ⟨h11_⟩
                  have NB619_624 : Aside0 (gb619 ≠ gb624) := ⟨h12_⟩
                  have NB624_619 : Aside0 (gb624 ≠ gb619) := ⟨h13_⟩
                  replace HB : Aside0 (Below w.heap.size w w73) := ⟨h14_⟩
                  clear h0_ h1_ h2_ h3_ h4_ h5_ h6_ h7_ h8_ h9_ h10_ h11_ h12_ h13_ h14_
                  have hHeld : w73.cell? ⟨gb619, 0, none⟩ = some (.int .i64 t616) ∧ w73.cell? ⟨gb619, 1, none⟩ = some (.int .i64 t617) ∧ w73.cell? (ad620.add ((x10_2).toNat * 2)) = some (.int .i64 ((rd_T36 l1 x10_2).f0)) ∧ w73.cell? ⟨(ad620.add ((x10_2).toNat * 2)).block, (ad620.add ((x10_2).toNat * 2)).off + 1, none⟩ = some (.int .i64 ((rd_T36 l1 x10_2).f1)) := hS_
                  refine norm_ (a' := ?_) ?_ ?_
                  rotate_left
                  ·simp only [putAll, Act.put, List.setIfInBounds_toArray, List.set_cons_zero, List.set_cons_succ]
                   rfl
                  refine one_ (i := 10) (N := none) (tl_ 12 2047) rfl rfl (one_of HT_.out (g0_)) (by decide) (fun K hK => ?_)
                  have hs74 : w73.cell? ⟨gb624, 0, none⟩ = some (.int .i64 0) := (blk_cell BK624.out 0).trans rfl
                  have hfs74 := blk_frozen BK624.out 0
                  have hns74_0 := NB599_624.out
                  have hns74_1 := NB608_624.out
                  have hns74_2 := NB619_624.out
                  have hms74_0 := NB624_599.out
                  have hms74_1 := NB624_608.out
                  have hms74_2 := NB624_619.out
                  have hs75 : w73.cell? ⟨gb624, 1, none⟩ = some (.int .i64 0) := (blk_cell BK624.out 1).trans rfl
                  have hfs75 := blk_frozen BK624.out 1
                  have hns75_0 := NB599_624.out
                  have hns75_1 := NB608_624.out
                  have hns75_2 := NB619_624.out
                  have hms75_0 := NB624_599.out
                  have hms75_1 := NB624_608.out
                  have hms75_2 := NB624_619.out
                  refine skip_ (w1 := ?_) (by rfl) rfl ?_ ?_
                  rotate_left
                  ·go_simp
                   rfl
                  refine hK.out _ _ ⟨((cell_far (p := ⟨gb624, _, none⟩) NB619_624.out _).trans (((cell_far (p := ⟨gb624, _, none⟩) NB619_624.out _).trans (hHeld.1)))), ((cell_far (p := ⟨gb624, _, none⟩) NB619_624.out _).trans (((cell_far (p := ⟨gb624, _, none⟩) NB619_624.out _).trans (hHeld.2.1)))), ((cell_far (p := ⟨gb624, _, none⟩) (by first | exact Nat.ne_of_lt (Nat.lt_of_lt_of_le (by have := World.block_lt_of_cell? _ _ hw620_0; first | rwa [add_block] at this | exact this) GW624.out) | (rw [add_block]; exact Nat.ne_of_lt (Nat.lt_of_lt_of_le (by have := World.block_lt_of_cell? _ _ hw620_0; first | rwa [add_block] at this | exact this) GW624.out)) | (show (Addr.add _ _).block ≠ _; rw [add_block]; exact Nat.ne_of_lt (Nat.lt_of_lt_of_le (by have := World.block_lt_of_cell? _ _ hw620_0; first | rwa [add_block] at this | exact this) GW624.out)) | (dsimp only; exact Nat.ne_of_lt (Nat.lt_of_lt_of_le (by have := World.block_lt_of_cell? _ _ hw620_0; first | rwa [add_block] at this | exact this) GW624.out))) _).trans (((cell_far (p := ⟨gb624, _, none⟩) (by first | exact Nat.ne_of_lt (Nat.lt_of_lt_of_le (by have := World.block_lt_of_cell? _ _ hw620_0; first | rwa [add_block] at this | exact this) GW624.out) | (rw [add_block]; exact Nat.ne_of_lt (Nat.lt_of_lt_of_le (by have := World.block_lt_of_cell? _ _ hw620_0; first | rwa [add_block] at this | exact this) GW624.out)) | (show (Addr.add _ _).block ≠ _; rw [add_block]; exact Nat.ne_of_lt (Nat.lt_of_lt_of_le (by have := World.block_lt_of_cell? _ _ hw620_0; first | rwa [add_block] at this | exact this) GW624.out)) | (dsimp only; exact Nat.ne_of_lt (Nat.lt_of_lt_of_le (by have := World.block_lt_of_cell? _ _ hw620_0; first | rwa [add_block] at this | exact this) GW624.out))) _).trans (hHeld.2.2.1)))), ((cell_far (p := ⟨gb624, _, none⟩) (by first | exact Nat.ne_of_lt (Nat.lt_of_lt_of_le (by have := World.block_lt_of_cell? _ _ hw620_1; first | rwa [add_block] at this | exact this) GW624.out) | (rw [add_block]; exact Nat.ne_of_lt (Nat.lt_of_lt_of_le (by have := World.block_lt_of_cell? _ _ hw620_1; first | rwa [add_block] at this | exact this) GW624.out)) | (show (Addr.add _ _).block ≠ _; rw [add_block]; exact Nat.ne_of_lt (Nat.lt_of_lt_of_le (by have := World.block_lt_of_cell? _ _ hw620_1; first | rwa [add_block] at this | exact this) GW624.out)) | (dsimp only; exact Nat.ne_of_lt (Nat.lt_of_lt_of_le (by have := World.block_lt_of_cell? _ _ hw620_1; first | rwa [add_block] at this | exact this) GW624.out))) _).trans (((cell_far (p := ⟨gb624, _, none⟩) (by first | exact Nat.ne_of_lt (Nat.lt_of_lt_of_le (by have := World.block_lt_of_cell? _ _ hw620_1; first | rwa [add_block] at this | exact this) GW624.out) | (rw [add_block]; exact Nat.ne_of_lt (Nat.lt_of_lt_of_le (by have := World.block_lt_of_cell? _ _ hw620_1; first | rwa [add_block] at this | exact this) GW624.out)) | (show (Addr.add _ _).block ≠ _; rw [add_block]; exact Nat.ne_of_lt (Nat.lt_of_lt_of_le (by have := World.block_lt_of_cell? _ _ hw620_1; first | rwa [add_block] at this | exact this) GW624.out)) | (dsimp only; exact Nat.ne_of_lt (Nat.lt_of_lt_of_le (by have := World.block_lt_of_cell? _ _ hw620_1; first | rwa [add_block] at this | exact this) GW624.out))) _).trans (hHeld.2.2.2))))⟩ (fun hHeld => ?_)
                  clear hK K
                  refine pw_ 11 14 (tl_ 12 4095) rfl rfl ?_
                  refine done_ (done_of HT_.out (g0_)) ?_
                  have hnb76 := NB608_599.out
                  have hnc76 := NB599_608.out
                  have hnb77 := NB608_619.out
                  have hnc77 := NB619_608.out
                  have hnb78 := NB608_624.out
                  have hnc78 := NB624_608.out
                  obtain ⟨hcz79_0, hcz79_1, hfz79_0, hfz79_1⟩ := blk2_ BK608
                  have hnb80 := NB624_599.out
                  have hnc80 := NB599_624.out
                  have hnb81 := NB624_619.out
                  have hnc81 := NB619_624.out
                  obtain ⟨hcz82_0, hcz82_1, hfz82_0, hfz82_1⟩ := blk2_ BK624
                  try go_wp2_with (first | ((with_reducible refine gate_callee (f := 76) rfl ?_); refine goesL_ (some 76) rfl rfl Try.func76 k_ rfl #[.agg #[.int .i64 x609000_2, .int .i64 x609001_2], .agg #[.int .i64 t621, .int .i64 t622]] rfl (g2_) ?_; (with_reducible refine (spec_PlusOf.calls k2 x609000_2 x609001_2 t621 t622 t625 t626 false _ A30.out).mono ?_); rintro e w83 ⟨rfl, hb⟩; refine ⟨_, rfl, ?_⟩; replace HO_6 := Aside0.mk (Kd.R_below (g162_) hb); replace HO_7 := Aside0.mk (Kd.R_below (g163_) hb); replace BK599 := Aside0.mk (blk_below (g := gb599) (o := .cells #[.slice (some ad607) l0_0.length c0_0, .slice (some ad613) l0_1.length c0_1] 26 (0, 0)) (g164_) hb); replace BK608 := Aside0.mk (blk_below (g := gb608) (o := .cells #[.int .i64 x609000_2, .int .i64 x609001_2] 36 (0, 0)) (g165_) hb); replace BK619 := Aside0.mk (blk_below (g := gb619) (o := .cells #[.int .i64 t616, .int .i64 t617] 36 (0, 0)) (g166_) hb); replace BK624 := Aside0.mk (blk_below (g := gb624) (o := .cells #[.int .i64 t621, .int .i64 t622] 36 (0, 0)) (g167_) hb); replace HB := Aside0.mk (below_step (spec_GetsOf.calls_q0) hb); (try clear hb); (try clear hk hi)) | ((with_reducible refine gate_dst (N := 15) rfl ?_); refine bx_ (N := 15) #[.int .i64 0, .int .i64 0] 36 ?_; intro gb628 hg w84 hbox hb; replace HO_6 := Aside0.mk (Kd.R_below (Kd.R_elderB (uf1_ HO_6) gb628 (Nat.le_of_eq hg.symm)) hb); replace HO_7 := Aside0.mk (Kd.R_below (uf1_ HO_7) hb); have BK628 := Aside0.mk (hbox); have GW628 := Aside0.mk ((g6_ : w.heap.size ≤ gb628)); have GE628 := Aside0.mk ((g6_ : w.heap.size ≤ gb628)); replace HB := Aside0.mk (below_step (spec_GetsOf.calls_q0) hb); have NB599_628 := Aside0.mk ((g25_ : gb599 ≠ gb628)); have NB628_599 := Aside0.mk ((g26_ : gb628 ≠ gb599)); replace BK599 := Aside0.mk (blk_below (g := gb599) (o := .cells #[.slice (some ad607) l0_0.length c0_0, .slice (some ad613) l0_1.length c0_1] 26 (0, 0)) (uf0_ BK599) hb); have NB608_628 := Aside0.mk ((g27_ : gb608 ≠ gb628)); have NB628_608 := Aside0.mk ((g28_ : gb628 ≠ gb608)); replace BK608 := Aside0.mk (blk_below (g := gb608) (o := .cells #[.int .i64 x609000_2, .int .i64 x609001_2] 36 (0, 0)) (uf0_ BK608) hb); have NB619_628 := Aside0.mk ((g39_ : gb619 ≠ gb628)); have NB628_619 := Aside0.mk ((g40_ : gb628 ≠ gb619)); replace BK619 := Aside0.mk (blk_below (g := gb619) (o := .cells #[.int .i64 t616, .int .i64 t617] 36 (0, 0)) (uf0_ BK619) hb); have NB624_628 := Aside0.mk ((g168_ : gb624 ≠ gb628)); have NB628_624 := Aside0.mk ((g169_ : gb628 ≠ gb624)); replace BK624 := Aside0.mk (blk_below (g := gb624) (o := .cells #[.int .i64 t621, .int .i64 t622] 36 (0, 0)) (uf0_ BK624) hb); clear hb hbox hg; have hnb85 := NB628_599.out; have hnc85 := NB599_628.out; have hnb86 := NB628_608.out; have hnc86 := NB608_628.out; have hnb87 := NB628_619.out; have hnc87 := NB619_628.out; have hnb88 := NB628_624.out; have hnc88 := NB624_628.out; obtain ⟨hcz89_0, hcz89_1, hfz89_0, hfz89_1⟩ := blk2_ BK628) | ((with_reducible refine gate_dst (N := 85) rfl ?_); refine Kd.R_lit k36 _ 36 ?hg (N := 85) ?hd (xs := ([] : List (S36))) (inner := []) (ok := fun _ => True) (okp := fun _ => True) ?hr ?hp (fun _ hk => hk) trivial (Below.refl _ _) (Nat.le_refl _) (by simp) ?_; (case hd => rfl); (case hg => rfl); (case hr => first | (go_simp; done) | (go_simp; rfl)); (case hp => exact (Reps.none _ _)); intro v630 w90 ho91 hb hg_ hnew_; clear hg_ hnew_; (first | rw [← Ny629.out] at ho91 | (simp only [Int.reduceToNat] at ho91; rw [← Ny629.out] at ho91)); replace HO_7 := Aside0.mk (Kd.R_below (by (with_reducible repeat (first | apply Kd.R_alloc | apply Kd.R_drewN | apply Kd.R_drew)); exact (Kd.R_mono (Kd.R_far (p := ⟨gb628, 1, none⟩) (Kd.R_far (p := ⟨gb628, 0, none⟩) (Kd.R_types HO_7.out BK628.out (by decide)) (fun _ hk => hk.2) (.int .i64 t625)) (fun _ hk => hk.2) (.int .i64 t626)) (fun _ h_ => h_.1))) hb); have HO631 := Aside0.mk (Kd.R_lower (Kd.R_newB (Kd.R_newB (Kd.R_newB (Kd.R_newB (Kd.R_new' ho91 (Kd.R_lt (g101_))) (g := gb608) (o := .cells #[.int .i64 x609000_2, .int .i64 x609001_2] 36 (0, 0)) (g102_)) (g := gb619) (o := .cells #[.int .i64 t616, .int .i64 t617] 36 (0, 0)) (g103_)) (g := gb624) (o := .cells #[.int .i64 t621, .int .i64 t622] 36 (0, 0)) (g104_)) (g := gb628) (o := .cells #[.int .i64 t625, .int .i64 t626] 36 (0, 0)) (g105_)) (below_size (spec_GetsOf.calls_q0))); replace HO_6 := Aside0.mk (Kd.R_elder' (g101_) (Kd.R_base ho91) hb); replace BK599 := Aside0.mk (blk_below (g := gb599) (o := .cells #[.slice (some ad607) l0_0.length c0_0, .slice (some ad613) l0_1.length c0_1] 26 (0, 0)) (by (with_reducible repeat (first | refine blk_drewN ?_ _ | refine blk_drew ?_ | refine blk_alloc ?_ _)); refine blk_far ?_ NB599_628.out _; (with_reducible repeat (first | refine blk_drewN ?_ _ | refine blk_drew ?_ | refine blk_alloc ?_ _)); refine blk_far ?_ NB599_628.out _; (with_reducible repeat (first | refine blk_drewN ?_ _ | refine blk_drew ?_ | refine blk_alloc ?_ _)); exact BK599.out) hb); replace BK608 := Aside0.mk (blk_below (g := gb608) (o := .cells #[.int .i64 x609000_2, .int .i64 x609001_2] 36 (0, 0)) (g102_) hb); replace BK619 := Aside0.mk (blk_below (g := gb619) (o := .cells #[.int .i64 t616, .int .i64 t617] 36 (0, 0)) (g103_) hb); replace BK624 := Aside0.mk (blk_below (g := gb624) (o := .cells #[.int .i64 t621, .int .i64 t622] 36 (0, 0)) (g104_) hb); replace BK628 := Aside0.mk (blk_below (g := gb628) (o := .cells #[.int .i64 t625, .int .i64 t626] 36 (0, 0)) (g105_) hb); replace HB := Aside0.mk (below_step (spec_GetsOf.calls_q0) hb); clear hb ho91))
                  go_ret2
                  exact ⟨_, g4_, by (with_reducible repeat (first | apply Kd.R_alloc | apply Kd.R_drewN | apply Kd.R_drew)); exact Kd.R_mono HO631.out (fun _ hk => trivial), spec_GetsOf.calls_q0⟩
                ·replace c31 := Bool.eq_false_iff.mpr c31
                 subst c31
                 replace H := ifn_ H
                 obtain ⟨y632, hy632⟩ : ∃ y_ : List (S36), y_ = (([] : List (S36))) := ⟨_, rfl⟩
                 replace H : (some (y632, false)) = some (r1, r2) := by first | (rw [hy632]; with_reducible exact H) | (have H2_ := (Option.bind_some _ _).symm.trans H; rw [hy632]; with_reducible exact H2_) | (have H2_ := (Option.bind_some _ _).symm.trans H; with_reducible exact H2_) | with_reducible exact H | (rw [hy632]; exact H) | exact H
                 have Ny632 := Aside0.mk hy632
                 clear hy632
                 simp only [Option.some.injEq, Prod.mk.injEq] at H
                 obtain ⟨rfl, rfl⟩ := H
                 obtain ⟨Ao92, co92, eo92⟩ := Kd.R_slice HO_7.out
                 subst eo92
                 have p612 : 0 ≤ (x10_2 : Int) := of_decide_eq_true (g1_)
                 have q612 : x10_2 < (t604.length : Int) := of_decide_eq_true (g1_)
                 obtain ⟨ad612, e612, hx612_0⟩ := Kd.at_int (Kd.R_reads' HO_7.out).2.2 x10_2 p612 q612
                 cases e612
                 replace p612 := eq_true p612
                 replace q612 := eq_true q612
                 try go_wp2
                 replace HO_6 := Aside0.mk (Kd.R_drew HO_6.out)
                 replace HO_7 := Aside0.mk (Kd.R_drew HO_7.out)
                 replace BK599 := Aside0.mk (blk_drew BK599.out)
                 replace BK608 := Aside0.mk (blk_drew BK608.out)
                 replace HB := Aside0.mk (below_drew1 HB.out)
                 have p613 : 0 ≤ (x10_2 : Int) := of_decide_eq_true (g1_)
                 have q613 : x10_2 < (l0_1.length : Int) := of_decide_eq_true (g1_)
                 obtain ⟨ad613, A613_0, c613_0, e613, hx613_0, hl613_0, hi613_0⟩ := at_L2 HR0_1.out x10_2 p613 q613
                 have hw613_0 := hx613_0
                 cases e613
                 replace hx613_0 := cl_ HB hx613_0
                 have HR613_0 := Aside0.mk hi613_0
                 have HC613_0 := Aside0.mk hl613_0
                 clear hi613_0 hl613_0
                 replace p613 := eq_true p613
                 replace q613 := eq_true q613
                 have p614 : 0 ≤ (x8_1 : Int) := of_decide_eq_true (g1_)
                 have q614 : x8_1 < ((rd_L2 l0_1 x10_2).length : Int) := of_decide_eq_true (g1_)
                 obtain ⟨ad614, e614, hx614_0⟩ := Kd.at_int HR613_0.out x8_1 p614 q614
                 have hw614_0 := hx614_0
                 cases e614
                 replace hx614_0 := cl_ HB hx614_0
                 replace p614 := eq_true p614
                 replace q614 := eq_true q614
                 have p615 : 0 ≤ (x10_2 : Int) := of_decide_eq_true (g1_)
                 have q615 : x10_2 < (t604.length : Int) := of_decide_eq_true (g1_)
                 obtain ⟨ad615, e615, hx615_0⟩ := Kd.at_int (Kd.R_reads' HO_7.out).2.2 x10_2 p615 q615
                 obtain rfl : ad612 = ad615 := (by injection e615)
                 replace p615 := eq_true p615
                 replace q615 := eq_true q615
                 refine start_ (n := 19) (S := fun w' => w'.cell? ⟨gb599, 0, none⟩ = some (.slice (some ad607) l0_0.length c0_0) ∧ w'.cell? ⟨gb599, 1, none⟩ = some (.slice (some ad613) l0_1.length c0_1) ∧ w'.cell? (ad613.add (x10_2).toNat) = some (.slice (some ad614) (rd_L2 l0_1 x10_2).length c613_0) ∧ w'.cell? (ad614.add (x8_1).toNat) = some (.int .i64 (rd (rd_L2 l0_1 x10_2) x8_1)) ∧ w'.cell? (ad612.add (x10_2).toNat) = some (.int .i64 (rd t604 x10_2))) (ds := []) (tl_ 19 0) (g0_) rfl (g0_) ⟨(blk_cell BK599.out 0).trans rfl, (blk_cell BK599.out 1).trans rfl, ((cl_ HB hw613_0).trans rfl), ((cl_ HB hw614_0).trans rfl), hx615_0⟩ (fun hHeld => ?_); refine with_tabW spec_GetsOf.tab13 spec_GetsOf.bits13 (fun HT_ HW_ => ?_)
                 generalize wr.drew = w93 at HO_6 HO_7 BK599 BK608 HB HR613_0 hx613_0 hx614_0 hx615_0 hHeld ⊢
                 refine pw_ 0 49 (tl_ 19 1) rfl rfl ?_
                 refine pw_ 2 51 (tl_ 19 5) rfl rfl ?_
                 refine pw_ 5 54 (tl_ 19 37) rfl rfl ?_
                 refine pw_ 8 57 (tl_ 19 293) rfl rfl ?_
                 refine pw_ 9 58 (tl_ 19 805) rfl rfl ?_
                 refine pw_ 10 59 (tl_ 19 1829) rfl rfl ?_
                 refine tk5_ 1 50 (tl_ 19 1831) rfl rfl hHeld ?_
                 refine pw_ 3 52 (tl_ 19 1839) rfl rfl ?_
                 refine tk5_ 4 53 (tl_ 19 1855) rfl rfl hHeld ?_
                 refine pw_ 6 55 (tl_ 19 1919) rfl rfl ?_
                 refine tk5_ 7 56 (tl_ 19 2047) rfl rfl hHeld ?_
                 refine tk5_ 11 60 (tl_ 19 4095) rfl rfl hHeld ?_
                 refine join_ (σ := Nat) 2 (tl_ 19 131071) (fun s_ => [(61, .tuple #[.agg #[.int .i64 t616, .int .i64 t617], .bool t618]), (11, .pointer (some ⟨s_, 0, none⟩)), (48, .tuple #[.agg #[.int .i64 t616, .int .i64 t617], .bool t618]), (62, .agg #[.int .i64 t616, .int .i64 t617]), (63, .bool t618)]) (fun s_ w' => (w'.cell? ⟨gb599, 0, none⟩ = some (.slice (some ad607) l0_0.length c0_0) ∧ w'.cell? ⟨gb599, 1, none⟩ = some (.slice (some ad613) l0_1.length c0_1) ∧ w'.cell? (ad613.add (x10_2).toNat) = some (.slice (some ad614) (rd_L2 l0_1 x10_2).length c613_0) ∧ w'.cell? (ad614.add (x8_1).toNat) = some (.int .i64 (rd (rd_L2 l0_1 x10_2) x8_1)) ∧ w'.cell? (ad612.add (x10_2).toNat) = some (.int .i64 (rd t604 x10_2))) ∧ (Kd.R k36 36 w' w.heap.size (fun k_ => k_ ≠ gb608 ∧ k_ ≠ s_) u6 x6_1) ∧ (Kd.R (Kd.int .i64) 3 w' w.heap.size (fun _ => True) (.slice (some ad612) t604.length co92) t604) ∧ (w'.heap[gb599]? = some (.cells #[.slice (some ad607) l0_0.length c0_0, .slice (some ad613) l0_1.length c0_1] 26 (0, 0))) ∧ (w'.heap[gb608]? = some (.cells #[.int .i64 x609000_2, .int .i64 x609001_2] 36 (0, 0))) ∧ (w'.heap[s_]? = some (.cells #[.int .i64 0, .int .i64 0] 36 (0, 0))) ∧ (w.heap.size ≤ s_) ∧ (w.heap.size ≤ s_) ∧ (gb599 ≠ s_) ∧ (s_ ≠ gb599) ∧ (gb608 ≠ s_) ∧ (s_ ≠ gb608) ∧ (Below w.heap.size w w')) ?_ ?_
                 rotate_left
                 ·intro hCont
                  refine two_ (i := 12) (j := 16) (Ni := some 61) (Nj := some 11) (tl_ 19 8191) (tl_ 19 69631) rfl rfl rfl rfl (two_of HT_.out (g0_)) (by decide) (by decide) (fun K hK => ?_) (fun K hK => ?_)
                  ·skip
                   refine goes_ Try.func74 (g0_) rfl #[.int .i64 (rd (rd_L2 l0_1 x10_2) x8_1), .int .i64 (rd t604 x10_2)] (by rfl) rfl rfl (g2_) ?_
                   with_reducible refine (spec_FracOf.calls k2 (rd (rd_L2 l0_1 x10_2) x8_1) (rd t604 x10_2) t616 t617 t618 _ A28.out).mono ?_
                   rintro e w94 ⟨rfl, hb⟩
                   have HS4_ := (hb.cell (World.block_lt_of_cell? _ _ (hHeld.2.2.2.2))).trans (hHeld.2.2.2.2)
                   refine ⟨_, rfl, ?_⟩
                   replace HO_6 := Aside0.mk (Kd.R_below (uf1_ HO_6) hb)
                   replace HO_7 := Aside0.mk (Kd.R_below (uf1_ HO_7) hb)
                   replace BK599 := Aside0.mk (blk_below (g := gb599) (o := .cells #[.slice (some ad607) l0_0.length c0_0, .slice (some ad613) l0_1.length c0_1] 26 (0, 0)) (uf0_ BK599) hb)
                   replace BK608 := Aside0.mk (blk_below (g := gb608) (o := .cells #[.int .i64 x609000_2, .int .i64 x609001_2] 36 (0, 0)) (uf0_ BK608) hb)
                   replace HB := Aside0.mk (below_step (spec_GetsOf.calls_q0) hb)
                   (try clear hb)
                   (try clear hk hi)
                   refine hK.out _ _ ⟨(blk_cell BK599.out 0).trans rfl, (blk_cell BK599.out 1).trans rfl, ((cl_ HB hw613_0).trans rfl), ((cl_ HB hw614_0).trans rfl), HS4_⟩ (fun hHeld => ?_)
                   clear hK K
                   refine nm_ ?_
                   refine pw_ 13 48 (tl_ 19 16383) rfl rfl ?_
                   refine pw_ 14 62 (tl_ 19 32767) rfl rfl ?_
                   refine pw_ 15 63 (tl_ 19 65535) rfl rfl ?_
                   refine one_ (i := 16) (N := some 11) (tl_ 19 131071) rfl rfl (one_of HT_.out (g0_)) (by decide) (fun K hK => ?_)
                   refine box_step ?hg (N := 11) ?hd (cs := #[.int .i64 0, .int .i64 0]) (t := 36) ?hr ?_; (case hd => rfl); (case hg => rfl); (case hr => first | (go_simp; done) | (go_simp; rfl))
                   intro gb619 hg w95 hbox hb
                   have HS4_ := (hb.cell (World.block_lt_of_cell? _ _ (hHeld.2.2.2.2))).trans (hHeld.2.2.2.2)
                   replace HO_6 := Aside0.mk (Kd.R_below (Kd.R_elderB (uf1_ HO_6) gb619 (Nat.le_of_eq hg.symm)) hb)
                   replace HO_7 := Aside0.mk (Kd.R_below (uf1_ HO_7) hb)
                   have BK619 := Aside0.mk (hbox)
                   have GW619 := Aside0.mk ((g6_ : w.heap.size ≤ gb619))
                   have GE619 := Aside0.mk ((g6_ : w.heap.size ≤ gb619))
                   replace HB := Aside0.mk (below_step (spec_GetsOf.calls_q0) hb)
                   have NB599_619 := Aside0.mk ((g25_ : gb599 ≠ gb619))
                   have NB619_599 := Aside0.mk ((g26_ : gb619 ≠ gb599))
                   replace BK599 := Aside0.mk (blk_below (g := gb599) (o := .cells #[.slice (some ad607) l0_0.length c0_0, .slice (some ad613) l0_1.length c0_1] 26 (0, 0)) (uf0_ BK599) hb)
                   have NB608_619 := Aside0.mk ((g27_ : gb608 ≠ gb619))
                   have NB619_608 := Aside0.mk ((g28_ : gb619 ≠ gb608))
                   replace BK608 := Aside0.mk (blk_below (g := gb608) (o := .cells #[.int .i64 x609000_2, .int .i64 x609001_2] 36 (0, 0)) (uf0_ BK608) hb)
                   clear hb hbox hg
                   refine hK.out _ _ ⟨(blk_cell BK599.out 0).trans rfl, (blk_cell BK599.out 1).trans rfl, ((cl_ HB hw613_0).trans rfl), ((cl_ HB hw614_0).trans rfl), HS4_⟩ (fun hHeld => ?_)
                   clear hK K
                   refine nm_ ?_
                   exact norm_ (g8_) (hCont (gb619) _ ⟨hHeld, (uf1_ HO_6), (uf1_ HO_7), (uf0_ BK599), (uf0_ BK608), (uf0_ BK619), GW619.out, GE619.out, NB599_619.out, NB619_599.out, NB608_619.out, NB619_608.out, (spec_GetsOf.calls_q0)⟩)
                  ·skip
                   refine box_step ?hg (N := 11) ?hd (cs := #[.int .i64 0, .int .i64 0]) (t := 36) ?hr ?_; (case hd => rfl); (case hg => rfl); (case hr => first | (go_simp; done) | (go_simp; rfl))
                   intro gb619 hg w94 hbox hb
                   have HS4_ := (hb.cell (World.block_lt_of_cell? _ _ (hHeld.2.2.2.2))).trans (hHeld.2.2.2.2)
                   replace HO_6 := Aside0.mk (Kd.R_below (Kd.R_elderB (uf1_ HO_6) gb619 (Nat.le_of_eq hg.symm)) hb)
                   replace HO_7 := Aside0.mk (Kd.R_below (uf1_ HO_7) hb)
                   have BK619 := Aside0.mk (hbox)
                   have GW619 := Aside0.mk ((g6_ : w.heap.size ≤ gb619))
                   have GE619 := Aside0.mk ((g6_ : w.heap.size ≤ gb619))
                   replace HB := Aside0.mk (below_step (spec_GetsOf.calls_q0) hb)
                   have NB599_619 := Aside0.mk ((g25_ : gb599 ≠ gb619))
                   have NB619_599 := Aside0.mk ((g26_ : gb619 ≠ gb599))
                   replace BK599 := Aside0.mk (blk_below (g := gb599) (o := .cells #[.slice (some ad607) l0_0.length c0_0, .slice (some ad613) l0_1.length c0_1] 26 (0, 0)) (uf0_ BK599) hb)
                   have NB608_619 := Aside0.mk ((g27_ : gb608 ≠ gb619))
                   have NB619_608 := Aside0.mk ((g28_ : gb619 ≠ gb608))
                   replace BK608 := Aside0.mk (blk_below (g := gb608) (o := .cells #[.int .i64 x609000_2, .int .i64 x609001_2] 36 (0, 0)) (uf0_ BK608) hb)
                   clear hb hbox hg
                   refine hK.out _ _ ⟨(blk_cell BK599.out 0).trans rfl, (blk_cell BK599.out 1).trans rfl, ((cl_ HB hw613_0).trans rfl), ((cl_ HB hw614_0).trans rfl), HS4_⟩ (fun hHeld => ?_)
                   clear hK K
                   refine nm_ ?_
                   refine one_ (i := 12) (N := some 61) (tl_ 19 73727) rfl rfl (one_of HT_.out (g0_)) (by decide) (fun K hK => ?_)
                   refine goes_ Try.func74 (g0_) rfl #[.int .i64 (rd (rd_L2 l0_1 x10_2) x8_1), .int .i64 (rd t604 x10_2)] (by rfl) rfl rfl (g2_) ?_
                   with_reducible refine (spec_FracOf.calls k2 (rd (rd_L2 l0_1 x10_2) x8_1) (rd t604 x10_2) t616 t617 t618 _ A28.out).mono ?_
                   rintro e w95 ⟨rfl, hb⟩
                   have HS4_ := (hb.cell (World.block_lt_of_cell? _ _ (hHeld.2.2.2.2))).trans (hHeld.2.2.2.2)
                   refine ⟨_, rfl, ?_⟩
                   replace HO_6 := Aside0.mk (Kd.R_below (uf1_ HO_6) hb)
                   replace HO_7 := Aside0.mk (Kd.R_below (uf1_ HO_7) hb)
                   replace BK599 := Aside0.mk (blk_below (g := gb599) (o := .cells #[.slice (some ad607) l0_0.length c0_0, .slice (some ad613) l0_1.length c0_1] 26 (0, 0)) (uf0_ BK599) hb)
                   replace BK608 := Aside0.mk (blk_below (g := gb608) (o := .cells #[.int .i64 x609000_2, .int .i64 x609001_2] 36 (0, 0)) (uf0_ BK608) hb)
                   replace BK619 := Aside0.mk (blk_below (g := gb619) (o := .cells #[.int .i64 0, .int .i64 0] 36 (0, 0)) (uf0_ BK619) hb)
                   replace HB := Aside0.mk (below_step (spec_GetsOf.calls_q0) hb)
                   (try clear hb)
                   (try clear hk hi)
                   refine hK.out _ _ ⟨(blk_cell BK599.out 0).trans rfl, (blk_cell BK599.out 1).trans rfl, ((cl_ HB hw613_0).trans rfl), ((cl_ HB hw614_0).trans rfl), HS4_⟩ (fun hHeld => ?_)
                   clear hK K
                   refine nm_ ?_
                   refine pw_ 13 48 (tl_ 19 81919) rfl rfl ?_
                   refine pw_ 14 62 (tl_ 19 98303) rfl rfl ?_
                   refine pw_ 15 63 (tl_ 19 131071) rfl rfl ?_
                   exact norm_ (g8_) (hCont (gb619) _ ⟨hHeld, (uf1_ HO_6), (uf1_ HO_7), (uf0_ BK599), (uf0_ BK608), (uf0_ BK619), GW619.out, GE619.out, NB599_619.out, NB619_599.out, NB608_619.out, NB619_608.out, (spec_GetsOf.calls_q0)⟩)
                 rintro gb619 w96 ⟨hS_, h0_, h1_, h2_, h3_, h4_, h5_, h6_, h7_, h8_, h9_, h10_, h11_⟩
                 replace HO_6 : Aside0 (Kd.R k36 36 w96 w.heap.size (fun k_ => k_ ≠ gb608 ∧ k_ ≠ gb619) u6 x6_1) := ⟨h0_⟩
                 replace HO_7 : Aside0 (Kd.R (Kd.int .i64) 3 w96 w.heap.size (fun _ => True) (.slice (some ad612) t604.length co92) t604) := ⟨h1_⟩
                 replace BK599 : Aside0 (w96.heap[gb599]? = some (.cells #[.slice (some ad607) l0_0.length c0_0, .slice (some ad613) l0_1.length c0_1] 26 (0, 0))) := ⟨h2_⟩
                 replace BK608 : Aside0 (w96.heap[gb608]? = some (.cells #[.int .i64 x609000_2, .int .i64 x609001_2] 36 (0, 0))) := ⟨h3_⟩
                 have BK619 : Aside0 (w96.heap[gb619]? = some (.cells #[.int .i64 0, .int .i64 0] 36 (0, 0))) := ⟨h4_⟩
                 have GW619 : Aside0 (w.heap.size ≤ gb619) := ⟨h5_⟩
                 have GE619 : Aside0 (w.heap.size ≤ gb619) := ⟨h6_⟩
                 have NB599_619 : Aside0 (gb599 ≠ gb619) := ⟨h7_⟩
                 have NB619_599 : Aside0 (gb619 ≠ gb599) := ⟨h8_⟩
                 have NB608_619 : Aside0 (gb608 ≠ gb619) := ⟨h9_⟩
                 have NB619_608 : Aside0 (gb619 ≠ gb608) := ⟨h10_⟩
                 replace HB : Aside0 (Below w.heap.size w w96) := ⟨h11_⟩
                 clear h0_ h1_ h2_ h3_ h4_ h5_ h6_ h7_ h8_ h9_ h10_ h11_
                 have hHeld : w96.cell? ⟨gb599, 0, none⟩ = some (.slice (some ad607) l0_0.length c0_0) ∧ w96.cell? ⟨gb599, 1, none⟩ = some (.slice (some ad613) l0_1.length c0_1) ∧ w96.cell? (ad613.add (x10_2).toNat) = some (.slice (some ad614) (rd_L2 l0_1 x10_2).length c613_0) ∧ w96.cell? (ad614.add (x8_1).toNat) = some (.int .i64 (rd (rd_L2 l0_1 x10_2) x8_1)) ∧ w96.cell? (ad612.add (x10_2).toNat) = some (.int .i64 (rd t604 x10_2)) := hS_
                 refine norm_ (a' := ?_) ?_ ?_
                 rotate_left
                 ·simp only [putAll, Act.put, List.setIfInBounds_toArray, List.set_cons_zero, List.set_cons_succ]
                  rfl
                 refine one_ (i := 17) (N := none) (tl_ 19 262143) rfl rfl (one_of HT_.out (g0_)) (by decide) (fun K hK => ?_)
                 have hs97 : w96.cell? ⟨gb619, 0, none⟩ = some (.int .i64 0) := (blk_cell BK619.out 0).trans rfl
                 have hfs97 := blk_frozen BK619.out 0
                 have hns97_0 := NB599_619.out
                 have hns97_1 := NB608_619.out
                 have hms97_0 := NB619_599.out
                 have hms97_1 := NB619_608.out
                 have hs98 : w96.cell? ⟨gb619, 1, none⟩ = some (.int .i64 0) := (blk_cell BK619.out 1).trans rfl
                 have hfs98 := blk_frozen BK619.out 1
                 have hns98_0 := NB599_619.out
                 have hns98_1 := NB608_619.out
                 have hms98_0 := NB619_599.out
                 have hms98_1 := NB619_608.out
                 refine skip_ (w1 := ?_) (by rfl) rfl ?_ ?_
                 rotate_left
                 ·go_simp
                  rfl
                 refine hK.out _ _ ⟨((cell_far (p := ⟨gb619, _, none⟩) NB599_619.out _).trans (((cell_far (p := ⟨gb619, _, none⟩) NB599_619.out _).trans (hHeld.1)))), ((cell_far (p := ⟨gb619, _, none⟩) NB599_619.out _).trans (((cell_far (p := ⟨gb619, _, none⟩) NB599_619.out _).trans (hHeld.2.1)))), ((cell_far (p := ⟨gb619, _, none⟩) (by first | exact Nat.ne_of_lt (Nat.lt_of_lt_of_le (by have := World.block_lt_of_cell? _ _ hw613_0; first | rwa [add_block] at this | exact this) GW619.out) | (rw [add_block]; exact Nat.ne_of_lt (Nat.lt_of_lt_of_le (by have := World.block_lt_of_cell? _ _ hw613_0; first | rwa [add_block] at this | exact this) GW619.out)) | (show (Addr.add _ _).block ≠ _; rw [add_block]; exact Nat.ne_of_lt (Nat.lt_of_lt_of_le (by have := World.block_lt_of_cell? _ _ hw613_0; first | rwa [add_block] at this | exact this) GW619.out)) | (dsimp only; exact Nat.ne_of_lt (Nat.lt_of_lt_of_le (by have := World.block_lt_of_cell? _ _ hw613_0; first | rwa [add_block] at this | exact this) GW619.out))) _).trans (((cell_far (p := ⟨gb619, _, none⟩) (by first | exact Nat.ne_of_lt (Nat.lt_of_lt_of_le (by have := World.block_lt_of_cell? _ _ hw613_0; first | rwa [add_block] at this | exact this) GW619.out) | (rw [add_block]; exact Nat.ne_of_lt (Nat.lt_of_lt_of_le (by have := World.block_lt_of_cell? _ _ hw613_0; first | rwa [add_block] at this | exact this) GW619.out)) | (show (Addr.add _ _).block ≠ _; rw [add_block]; exact Nat.ne_of_lt (Nat.lt_of_lt_of_le (by have := World.block_lt_of_cell? _ _ hw613_0; first | rwa [add_block] at this | exact this) GW619.out)) | (dsimp only; exact Nat.ne_of_lt (Nat.lt_of_lt_of_le (by have := World.block_lt_of_cell? _ _ hw613_0; first | rwa [add_block] at this | exact this) GW619.out))) _).trans (hHeld.2.2.1)))), ((cell_far (p := ⟨gb619, _, none⟩) (by first | exact Nat.ne_of_lt (Nat.lt_of_lt_of_le (by have := World.block_lt_of_cell? _ _ hw614_0; first | rwa [add_block] at this | exact this) GW619.out) | (rw [add_block]; exact Nat.ne_of_lt (Nat.lt_of_lt_of_le (by have := World.block_lt_of_cell? _ _ hw614_0; first | rwa [add_block] at this | exact this) GW619.out)) | (show (Addr.add _ _).block ≠ _; rw [add_block]; exact Nat.ne_of_lt (Nat.lt_of_lt_of_le (by have := World.block_lt_of_cell? _ _ hw614_0; first | rwa [add_block] at this | exact this) GW619.out)) | (dsimp only; exact Nat.ne_of_lt (Nat.lt_of_lt_of_le (by have := World.block_lt_of_cell? _ _ hw614_0; first | rwa [add_block] at this | exact this) GW619.out))) _).trans (((cell_far (p := ⟨gb619, _, none⟩) (by first | exact Nat.ne_of_lt (Nat.lt_of_lt_of_le (by have := World.block_lt_of_cell? _ _ hw614_0; first | rwa [add_block] at this | exact this) GW619.out) | (rw [add_block]; exact Nat.ne_of_lt (Nat.lt_of_lt_of_le (by have := World.block_lt_of_cell? _ _ hw614_0; first | rwa [add_block] at this | exact this) GW619.out)) | (show (Addr.add _ _).block ≠ _; rw [add_block]; exact Nat.ne_of_lt (Nat.lt_of_lt_of_le (by have := World.block_lt_of_cell? _ _ hw614_0; first | rwa [add_block] at this | exact this) GW619.out)) | (dsimp only; exact Nat.ne_of_lt (Nat.lt_of_lt_of_le (by have := World.block_lt_of_cell? _ _ hw614_0; first | rwa [add_block] at this | exact this) GW619.out))) _).trans (hHeld.2.2.2.1)))), ((cell_far (p := ⟨gb619, _, none⟩) (g72_) _).trans (((cell_far (p := ⟨gb619, _, none⟩) (g72_) _).trans (hHeld.2.2.2.2))))⟩ (fun hHeld => ?_)
                 clear hK K
                 refine pw_ 18 12 (tl_ 19 524287) rfl rfl ?_
                 refine done_ (done_of HT_.out (g0_)) ?_
                 try go_wp2
                 have n0_ : Aside0 (Kd.R k36 36 ((w96.setCell ⟨gb619, 0, none⟩ (.int .i64 t616)).setCell ⟨gb619, 1, none⟩ (.int .i64 t617)) w.heap.size (fun k_ => k_ ≠ gb608 ∧ k_ ≠ gb619) u6 x6_1) := ⟨g157_⟩
                 have n1_ : Aside0 (Kd.R (Kd.int .i64) 3 ((w96.setCell ⟨gb619, 0, none⟩ (.int .i64 t616)).setCell ⟨gb619, 1, none⟩ (.int .i64 t617)) w.heap.size (fun _ => True) (.slice (some ad612) t604.length co92) t604) := ⟨g158_⟩
                 have n2_ : Aside0 (((w96.setCell ⟨gb619, 0, none⟩ (.int .i64 t616)).setCell ⟨gb619, 1, none⟩ (.int .i64 t617)).heap[gb599]? = some (.cells #[.slice (some ad607) l0_0.length c0_0, .slice (some ad613) l0_1.length c0_1] 26 (0, 0))) := ⟨g159_⟩
                 have n3_ : Aside0 (((w96.setCell ⟨gb619, 0, none⟩ (.int .i64 t616)).setCell ⟨gb619, 1, none⟩ (.int .i64 t617)).heap[gb608]? = some (.cells #[.int .i64 x609000_2, .int .i64 x609001_2] 36 (0, 0))) := ⟨g160_⟩
                 have n4_ : Aside0 (((w96.setCell ⟨gb619, 0, none⟩ (.int .i64 t616)).setCell ⟨gb619, 1, none⟩ (.int .i64 t617)).heap[gb619]? = some (.cells #[.int .i64 t616, .int .i64 t617] 36 (0, 0))) := ⟨g161_⟩
                 have n5_ : Aside0 (Below w.heap.size w ((w96.setCell ⟨gb619, 0, none⟩ (.int .i64 t616)).setCell ⟨gb619, 1, none⟩ (.int .i64 t617))) := ⟨spec_GetsOf.calls_q0⟩
                 (try clear HO_6)
                 (try clear HO_7)
                 (try clear BK599)
                 (try clear BK608)
                 (try clear BK619)
                 (try clear HB)
                 generalize ((w96.setCell ⟨gb619, 0, none⟩ (.int .i64 t616)).setCell ⟨gb619, 1, none⟩ (.int .i64 t617)) = w99 at n0_ n1_ n2_ n3_ n4_ n5_ ⊢
                 have HO_6 := n0_
                 have HO_7 := n1_
                 have BK599 := n2_
                 have BK608 := n3_
                 have BK619 := n4_
                 have HB := n5_
                 clear n0_ n1_ n2_ n3_ n4_ n5_
                 replace HO_6 := Aside0.mk (Kd.R_drew HO_6.out)
                 replace HO_7 := Aside0.mk (Kd.R_drew HO_7.out)
                 replace BK599 := Aside0.mk (blk_drew BK599.out)
                 replace BK608 := Aside0.mk (blk_drew BK608.out)
                 replace BK619 := Aside0.mk (blk_drew BK619.out)
                 replace HB := Aside0.mk (below_drew1 HB.out)
                 have p620 : 0 ≤ (x10_2 : Int) := of_decide_eq_true (g1_)
                 have q620 : x10_2 < (l1.length : Int) := of_decide_eq_true (g1_)
                 obtain ⟨ad620, e620, hx620_0, hx620_1⟩ := at_T36 HR1.out x10_2 p620 q620
                 have hw620_1 := hx620_1
                 have hw620_0 := hx620_0
                 cases e620
                 replace hx620_0 := cl_ HB hx620_0
                 replace hx620_1 := cl_ HB hx620_1
                 replace p620 := eq_true p620
                 replace q620 := eq_true q620
                 refine start_ (n := 12) (S := fun w' => w'.cell? ⟨gb619, 0, none⟩ = some (.int .i64 t616) ∧ w'.cell? ⟨gb619, 1, none⟩ = some (.int .i64 t617) ∧ w'.cell? (ad620.add ((x10_2).toNat * 2)) = some (.int .i64 ((rd_T36 l1 x10_2).f0)) ∧ w'.cell? ⟨(ad620.add ((x10_2).toNat * 2)).block, (ad620.add ((x10_2).toNat * 2)).off + 1, none⟩ = some (.int .i64 ((rd_T36 l1 x10_2).f1))) (ds := []) (tl_ 12 0) (g0_) rfl (g0_) ⟨(blk_cell BK619.out 0).trans rfl, (blk_cell BK619.out 1).trans rfl, ((cl_ HB hw620_0).trans rfl), ((cl_ HB hw620_1).trans rfl)⟩ (fun hHeld => ?_); refine with_tabW spec_GetsOf.tab14 spec_GetsOf.bits14 (fun HT_ HW_ => ?_)
                 generalize w99.drew = w100 at HO_6 HO_7 BK599 BK608 BK619 HB hx620_0 hx620_1 hHeld ⊢
                 refine pw_ 0 65 (tl_ 12 1) rfl rfl ?_
                 refine pw_ 1 66 (tl_ 12 3) rfl rfl ?_
                 refine pw_ 2 67 (tl_ 12 7) rfl rfl ?_
                 refine tk3_ 3 68 (tl_ 12 15) rfl rfl hHeld ?_
                 refine tk3_ 4 69 (tl_ 12 31) rfl rfl hHeld ?_
                 refine join_ (σ := Nat) 2 (tl_ 12 1023) (fun s_ => [(70, .tuple #[.agg #[.int .i64 t621, .int .i64 t622], .bool false]), (13, .pointer (some ⟨s_, 0, none⟩)), (64, .tuple #[.agg #[.int .i64 t621, .int .i64 t622], .bool false]), (71, .agg #[.int .i64 t621, .int .i64 t622]), (72, .bool false)]) (fun s_ w' => (w'.cell? ⟨gb619, 0, none⟩ = some (.int .i64 t616) ∧ w'.cell? ⟨gb619, 1, none⟩ = some (.int .i64 t617) ∧ w'.cell? (ad620.add ((x10_2).toNat * 2)) = some (.int .i64 ((rd_T36 l1 x10_2).f0)) ∧ w'.cell? ⟨(ad620.add ((x10_2).toNat * 2)).block, (ad620.add ((x10_2).toNat * 2)).off + 1, none⟩ = some (.int .i64 ((rd_T36 l1 x10_2).f1))) ∧ (Kd.R k36 36 w' w.heap.size (fun k_ => k_ ≠ gb608 ∧ k_ ≠ gb619 ∧ k_ ≠ s_) u6 x6_1) ∧ (Kd.R (Kd.int .i64) 3 w' w.heap.size (fun _ => True) (.slice (some ad612) t604.length co92) t604) ∧ (w'.heap[gb599]? = some (.cells #[.slice (some ad607) l0_0.length c0_0, .slice (some ad613) l0_1.length c0_1] 26 (0, 0))) ∧ (w'.heap[gb608]? = some (.cells #[.int .i64 x609000_2, .int .i64 x609001_2] 36 (0, 0))) ∧ (w'.heap[gb619]? = some (.cells #[.int .i64 t616, .int .i64 t617] 36 (0, 0))) ∧ (w'.heap[s_]? = some (.cells #[.int .i64 0, .int .i64 0] 36 (0, 0))) ∧ (w.heap.size ≤ s_) ∧ (w.heap.size ≤ s_) ∧ (gb599 ≠ s_) ∧ (s_ ≠ gb599) ∧ (gb608 ≠ s_) ∧ (s_ ≠ gb608) ∧ (gb619 ≠ s_) ∧ (s_ ≠ gb619) ∧ (Below w.heap.size w w')) ?_ ?_
                 rotate_left
                 ·intro hCont
                  refine two_ (i := 5) (j := 9) (Ni := some 70) (Nj := some 13) (tl_ 12 63) (tl_ 12 543) rfl rfl rfl rfl (two_of HT_.out (g0_)) (by decide) (by decide) (fun K hK => ?_) (fun K hK => ?_)
                  ·skip
                   refine goes_ Try.func75 (g0_) rfl #[.agg #[.int .i64 ((rd_T36 l1 x10_2).f0), .int .i64 ((rd_T36 l1 x10_2).f1)], .agg #[.int .i64 t616, .int .i64 t617]] (by rfl) rfl rfl (g2_) ?_
                   with_reducible refine (spec_TimesOf.calls k2 ((rd_T36 l1 x10_2).f0) ((rd_T36 l1 x10_2).f1) t616 t617 t621 t622 false _ A29.out).mono ?_
                   rintro e w101 ⟨rfl, hb⟩
                   refine ⟨_, rfl, ?_⟩
                   replace HO_6 := Aside0.mk (Kd.R_below (uf1_ HO_6) hb)
                   replace HO_7 := Aside0.mk (Kd.R_below (uf1_ HO_7) hb)
                   replace BK599 := Aside0.mk (blk_below (g := gb599) (o := .cells #[.slice (some ad607) l0_0.length c0_0, .slice (some ad613) l0_1.length c0_1] 26 (0, 0)) (uf0_ BK599) hb)
                   replace BK608 := Aside0.mk (blk_below (g := gb608) (o := .cells #[.int .i64 x609000_2, .int .i64 x609001_2] 36 (0, 0)) (uf0_ BK608) hb)
                   replace BK619 := Aside0.mk (blk_below (g := gb619) (o := .cells #[.int .i64 t616, .int .i64 t617] 36 (0, 0)) (uf0_ BK619) hb)
                   replace HB := Aside0.mk (below_step (spec_GetsOf.calls_q0) hb)
                   (try clear hb)
                   (try clear hk hi)
                   refine hK.out _ _ ⟨(blk_cell BK619.out 0).trans rfl, (blk_cell BK619.out 1).trans rfl, ((cl_ HB hw620_0).trans rfl), ((cl_ HB hw620_1).trans rfl)⟩ (fun hHeld => ?_)
                   clear hK K
                   refine nm_ ?_
                   refine pw_ 6 64 (tl_ 12 127) rfl rfl ?_
                   refine pw_ 7 71 (tl_ 12 255) rfl rfl ?_
                   refine pw_ 8 72 (tl_ 12 511) rfl rfl ?_
                   refine one_ (i := 9) (N := some 13) (tl_ 12 1023) rfl rfl (one_of HT_.out (g0_)) (by decide) (fun K hK => ?_)
                   refine box_step ?hg (N := 13) ?hd (cs := #[.int .i64 0, .int .i64 0]) (t := 36) ?hr ?_; (case hd => rfl); (case hg => rfl); (case hr => first | (go_simp; done) | (go_simp; rfl))
                   intro gb624 hg w102 hbox hb
                   replace HO_6 := Aside0.mk (Kd.R_below (Kd.R_elderB (uf1_ HO_6) gb624 (Nat.le_of_eq hg.symm)) hb)
                   replace HO_7 := Aside0.mk (Kd.R_below (uf1_ HO_7) hb)
                   have BK624 := Aside0.mk (hbox)
                   have GW624 := Aside0.mk ((g6_ : w.heap.size ≤ gb624))
                   have GE624 := Aside0.mk ((g6_ : w.heap.size ≤ gb624))
                   replace HB := Aside0.mk (below_step (spec_GetsOf.calls_q0) hb)
                   have NB599_624 := Aside0.mk ((g25_ : gb599 ≠ gb624))
                   have NB624_599 := Aside0.mk ((g26_ : gb624 ≠ gb599))
                   replace BK599 := Aside0.mk (blk_below (g := gb599) (o := .cells #[.slice (some ad607) l0_0.length c0_0, .slice (some ad613) l0_1.length c0_1] 26 (0, 0)) (uf0_ BK599) hb)
                   have NB608_624 := Aside0.mk ((g27_ : gb608 ≠ gb624))
                   have NB624_608 := Aside0.mk ((g28_ : gb624 ≠ gb608))
                   replace BK608 := Aside0.mk (blk_below (g := gb608) (o := .cells #[.int .i64 x609000_2, .int .i64 x609001_2] 36 (0, 0)) (uf0_ BK608) hb)
                   have NB619_624 := Aside0.mk ((g39_ : gb619 ≠ gb624))
                   have NB624_619 := Aside0.mk ((g40_ : gb624 ≠ gb619))
                   replace BK619 := Aside0.mk (blk_below (g := gb619) (o := .cells #[.int .i64 t616, .int .i64 t617] 36 (0, 0)) (uf0_ BK619) hb)
                   clear hb hbox hg
                   refine hK.out _ _ ⟨(blk_cell BK619.out 0).trans rfl, (blk_cell BK619.out 1).trans rfl, ((cl_ HB hw620_0).trans rfl), ((cl_ HB hw620_1).trans rfl)⟩ (fun hHeld => ?_)
                   clear hK K
                   refine nm_ ?_
                   exact norm_ (g8_) (hCont (gb624) _ ⟨hHeld, (g73_), (uf1_ HO_7), (uf0_ BK599), (uf0_ BK608), (uf0_ BK619), (uf0_ BK624), GW624.out, GE624.out, NB599_624.out, NB624_599.out, NB608_624.out, NB624_608.out, NB619_624.out, NB624_619.out, (spec_GetsOf.calls_q0)⟩)
                  ·skip
                   refine box_step ?hg (N := 13) ?hd (cs := #[.int .i64 0, .int .i64 0]) (t := 36) ?hr ?_; (case hd => rfl); (case hg => rfl); (case hr => first | (go_simp; done) | (go_simp; rfl))
                   intro gb624 hg w101 hbox hb
                   replace HO_6 := Aside0.mk (Kd.R_below (Kd.R_elderB (uf1_ HO_6) gb624 (Nat.le_of_eq hg.symm)) hb)
                   replace HO_7 := Aside0.mk (Kd.R_below (uf1_ HO_7) hb)
                   have BK624 := Aside0.mk (hbox)
                   have GW624 := Aside0.mk ((g6_ : w.heap.size ≤ gb624))
                   have GE624 := Aside0.mk ((g6_ : w.heap.size ≤ gb624))
                   replace HB := Aside0.mk (below_step (spec_GetsOf.calls_q0) hb)
                   have NB599_624 := Aside0.mk ((g25_ : gb599 ≠ gb624))
                   have NB624_599 := Aside0.mk ((g26_ : gb624 ≠ gb599))
                   replace BK599 := Aside0.mk (blk_below (g := gb599) (o := .cells #[.slice (some ad607) l0_0.length c0_0, .slice (some ad613) l0_1.length c0_1] 26 (0, 0)) (uf0_ BK599) hb)
                   have NB608_624 := Aside0.mk ((g27_ : gb608 ≠ gb624))
                   have NB624_608 := Aside0.mk ((g28_ : gb624 ≠ gb608))
                   replace BK608 := Aside0.mk (blk_below (g := gb608) (o := .cells #[.int .i64 x609000_2, .int .i64 x609001_2] 36 (0, 0)) (uf0_ BK608) hb)
                   have NB619_624 := Aside0.mk ((g39_ : gb619 ≠ gb624))
                   have NB624_619 := Aside0.mk ((g40_ : gb624 ≠ gb619))
                   replace BK619 := Aside0.mk (blk_below (g := gb619) (o := .cells #[.int .i64 t616, .int .i64 t617] 36 (0, 0)) (uf0_ BK619) hb)
                   clear hb hbox hg
                   refine hK.out _ _ ⟨(blk_cell BK619.out 0).trans rfl, (blk_cell BK619.out 1).trans rfl, ((cl_ HB hw620_0).trans rfl), ((cl_ HB hw620_1).trans rfl)⟩ (fun hHeld => ?_)
                   clear hK K
                   refine nm_ ?_
                   refine one_ (i := 5) (N := some 70) (tl_ 12 575) rfl rfl (one_of HT_.out (g0_)) (by decide) (fun K hK => ?_)
                   refine goes_ Try.func75 (g0_) rfl #[.agg #[.int .i64 ((rd_T36 l1 x10_2).f0), .int .i64 ((rd_T36 l1 x10_2).f1)], .agg #[.int .i64 t616, .int .i64 t617]] (by rfl) rfl rfl (g2_) ?_
                   with_reducible refine (spec_TimesOf.calls k2 ((rd_T36 l1 x10_2).f0) ((rd_T36 l1 x10_2).f1) t616 t617 t621 t622 false _ A29.out).mono ?_
                   rintro e w102 ⟨rfl, hb⟩
                   refine ⟨_, rfl, ?_⟩
                   replace HO_6 := Aside0.mk (Kd.R_below (uf1_ HO_6) hb)
                   replace HO_7 := Aside0.mk (Kd.R_below (uf1_ HO_7) hb)
                   replace BK599 := Aside0.mk (blk_below (g := gb599) (o := .cells #[.slice (some ad607) l0_0.length c0_0, .slice (some ad613) l0_1.length c0_1] 26 (0, 0)) (uf0_ BK599) hb)
                   replace BK608 := Aside0.mk (blk_below (g := gb608) (o := .cells #[.int .i64 x609000_2, .int .i64 x609001_2] 36 (0, 0)) (uf0_ BK608) hb)
                   replace BK619 := Aside0.mk (blk_below (g := gb619) (o := .cells #[.int .i64 t616, .int .i64 t617] 36 (0, 0)) (uf0_ BK619) hb)
                   replace BK624 := Aside0.mk (blk_below (g := gb624) (o := .cells #[.int .i64 0, .int .i64 0] 36 (0, 0)) (uf0_ BK624) hb)
                   replace HB := Aside0.mk (below_step (spec_GetsOf.calls_q0) hb)
                   (try clear hb)
                   (try clear hk hi)
                   refine hK.out _ _ ⟨(blk_cell BK619.out 0).trans rfl, (blk_cell BK619.out 1).trans rfl, ((cl_ HB hw620_0).trans rfl), ((cl_ HB hw620_1).trans rfl)⟩ (fun hHeld => ?_)
                   clear hK K
                   refine nm_ ?_
                   refine pw_ 6 64 (tl_ 12 639) rfl rfl ?_
                   refine pw_ 7 71 (tl_ 12 767) rfl rfl ?_
                   refine pw_ 8 72 (tl_ 12 1023) rfl rfl ?_
                   exact norm_ (g8_) (hCont (gb624) _ ⟨hHeld, (g73_), (uf1_ HO_7), (uf0_ BK599), (uf0_ BK608), (uf0_ BK619), (uf0_ BK624), GW624.out, GE624.out, NB599_624.out, NB624_599.out, NB608_624.out, NB624_608.out, NB619_624.out, NB624_619.out, (spec_GetsOf.calls_q0)⟩)
                 rintro gb624 w103 ⟨hS_, h0_, h1_, h2_, h3_, h4_, h5_, h6_, h7_, h8_, h9_, h10_, h11_, h12_, h13_, h14_⟩
                 replace HO_6 : Aside0 (Kd.R k36 36 w103 w.heap.size (fun k_ => k_ ≠ gb608 ∧ k_ ≠ gb619 ∧ k_ ≠ gb624) u6 x6_1) := ⟨h0_⟩
                 replace HO_7 : Aside0 (Kd.R (Kd.int .i64) 3 w103 w.heap.size (fun _ => True) (.slice (some ad612) t604.length co92) t604) := ⟨h1_⟩
                 replace BK599 : Aside0 (w103.heap[gb599]? = some (.cells #[.slice (some ad607) l0_0.length c0_0, .slice (some ad613) l0_1.length c0_1] 26 (0, 0))) := ⟨h2_⟩
                 replace BK608 : Aside0 (w103.heap[gb608]? = some (.cells #[.int .i64 x609000_2, .int .i64 x609001_2] 36 (0, 0))) := ⟨h3_⟩
                 replace BK619 : Aside0 (w103.heap[gb619]? = some (.cells #[.int .i64 t616, .int .i64 t617] 36 (0, 0))) := ⟨h4_⟩
                 have BK624 : Aside0 (w103.heap[gb624]? = some (.cells #[.int .i64 0, .int .i64 0] 36 (0, 0))) := ⟨h5_⟩
                 have GW624 : Aside0 (w.heap.size ≤ gb624) := ⟨h6_⟩
                 have GE624 : Aside0 (w.heap.size ≤ gb624) := ⟨h7_⟩
                 have NB599_624 : Aside0 (gb599 ≠ gb624) := ⟨h8_⟩
                 have NB624_599 : Aside0 (gb624 ≠ gb599) := ⟨h9_⟩
                 have NB608_624 : Aside0 (gb608 ≠ gb624) := ⟨h10_⟩
                 have NB624_608 : Aside0 (gb624 ≠ gb608) := ⟨h11_⟩
                 have NB619_624 : Aside0 (gb619 ≠ gb624) := ⟨h12_⟩
                 have NB624_619 : Aside0 (gb624 ≠ gb619) := ⟨h13_⟩
                 replace HB : Aside0 (Below w.heap.size w w103) := ⟨h14_⟩
                 clear h0_ h1_ h2_ h3_ h4_ h5_ h6_ h7_ h8_ h9_ h10_ h11_ h12_ h13_ h14_
                 have hHeld : w103.cell? ⟨gb619, 0, none⟩ = some (.int .i64 t616) ∧ w103.cell? ⟨gb619, 1, none⟩ = some (.int .i64 t617) ∧ w103.cell? (ad620.add ((x10_2).toNat * 2)) = some (.int .i64 ((rd_T36 l1 x10_2).f0)) ∧ w103.cell? ⟨(ad620.add ((x10_2).toNat * 2)).block, (ad620.add ((x10_2).toNat * 2)).off + 1, none⟩ = some (.int .i64 ((rd_T36 l1 x10_2).f1)) := hS_
                 refine norm_ (a' := ?_) ?_ ?_
                 rotate_left
                 ·simp only [putAll, Act.put, List.setIfInBounds_toArray, List.set_cons_zero, List.set_cons_succ]
                  rfl
                 refine one_ (i := 10) (N := none) (tl_ 12 2047) rfl rfl (one_of HT_.out (g0_)) (by decide) (fun K hK => ?_)
                 have hs104 : w103.cell? ⟨gb624, 0, none⟩ = some (.int .i64 0) := (blk_cell BK624.out 0).trans rfl
                 have hfs104 := blk_frozen BK624.out 0
                 have hns104_0 := NB599_624.out
                 have hns104_1 := NB608_624.out
                 have hns104_2 := NB619_624.out
                 have hms104_0 := NB624_599.out
                 have hms104_1 := NB624_608.out
                 have hms104_2 := NB624_619.out
                 have hs105 : w103.cell? ⟨gb624, 1, none⟩ = some (.int .i64 0) := (blk_cell BK624.out 1).trans rfl
                 have hfs105 := blk_frozen BK624.out 1
                 have hns105_0 := NB599_624.out
                 have hns105_1 := NB608_624.out
                 have hns105_2 := NB619_624.out
                 have hms105_0 := NB624_599.out
                 have hms105_1 := NB624_608.out
                 have hms105_2 := NB624_619.out
                 refine skip_ (w1 := ?_) (by rfl) rfl ?_ ?_
                 rotate_left
                 ·go_simp
                  rfl
                 refine hK.out _ _ ⟨((cell_far (p := ⟨gb624, _, none⟩) NB619_624.out _).trans (((cell_far (p := ⟨gb624, _, none⟩) NB619_624.out _).trans (hHeld.1)))), ((cell_far (p := ⟨gb624, _, none⟩) NB619_624.out _).trans (((cell_far (p := ⟨gb624, _, none⟩) NB619_624.out _).trans (hHeld.2.1)))), ((cell_far (p := ⟨gb624, _, none⟩) (by first | exact Nat.ne_of_lt (Nat.lt_of_lt_of_le (by have := World.block_lt_of_cell? _ _ hw620_0; first | rwa [add_block] at this | exact this) GW624.out) | (rw [add_block]; exact Nat.ne_of_lt (Nat.lt_of_lt_of_le (by have := World.block_lt_of_cell? _ _ hw620_0; first | rwa [add_block] at this | exact this) GW624.out)) | (show (Addr.add _ _).block ≠ _; rw [add_block]; exact Nat.ne_of_lt (Nat.lt_of_lt_of_le (by have := World.block_lt_of_cell? _ _ hw620_0; first | rwa [add_block] at this | exact this) GW624.out)) | (dsimp only; exact Nat.ne_of_lt (Nat.lt_of_lt_of_le (by have := World.block_lt_of_cell? _ _ hw620_0; first | rwa [add_block] at this | exact this) GW624.out))) _).trans (((cell_far (p := ⟨gb624, _, none⟩) (by first | exact Nat.ne_of_lt (Nat.lt_of_lt_of_le (by have := World.block_lt_of_cell? _ _ hw620_0; first | rwa [add_block] at this | exact this) GW624.out) | (rw [add_block]; exact Nat.ne_of_lt (Nat.lt_of_lt_of_le (by have := World.block_lt_of_cell? _ _ hw620_0; first | rwa [add_block] at this | exact this) GW624.out)) | (show (Addr.add _ _).block ≠ _; rw [add_block]; exact Nat.ne_of_lt (Nat.lt_of_lt_of_le (by have := World.block_lt_of_cell? _ _ hw620_0; first | rwa [add_block] at this | exact this) GW624.out)) | (dsimp only; exact Nat.ne_of_lt (Nat.lt_of_lt_of_le (by have := World.block_lt_of_cell? _ _ hw620_0; first | rwa [add_block] at this | exact this) GW624.out))) _).trans (hHeld.2.2.1)))), ((cell_far (p := ⟨gb624, _, none⟩) (by first | exact Nat.ne_of_lt (Nat.lt_of_lt_of_le (by have := World.block_lt_of_cell? _ _ hw620_1; first | rwa [add_block] at this | exact this) GW624.out) | (rw [add_block]; exact Nat.ne_of_lt (Nat.lt_of_lt_of_le (by have := World.block_lt_of_cell? _ _ hw620_1; first | rwa [add_block] at this | exact this) GW624.out)) | (show (Addr.add _ _).block ≠ _; rw [add_block]; exact Nat.ne_of_lt (Nat.lt_of_lt_of_le (by have := World.block_lt_of_cell? _ _ hw620_1; first | rwa [add_block] at this | exact this) GW624.out)) | (dsimp only; exact Nat.ne_of_lt (Nat.lt_of_lt_of_le (by have := World.block_lt_of_cell? _ _ hw620_1; first | rwa [add_block] at this | exact this) GW624.out))) _).trans (((cell_far (p := ⟨gb624, _, none⟩) (by first | exact Nat.ne_of_lt (Nat.lt_of_lt_of_le (by have := World.block_lt_of_cell? _ _ hw620_1; first | rwa [add_block] at this | exact this) GW624.out) | (rw [add_block]; exact Nat.ne_of_lt (Nat.lt_of_lt_of_le (by have := World.block_lt_of_cell? _ _ hw620_1; first | rwa [add_block] at this | exact this) GW624.out)) | (show (Addr.add _ _).block ≠ _; rw [add_block]; exact Nat.ne_of_lt (Nat.lt_of_lt_of_le (by have := World.block_lt_of_cell? _ _ hw620_1; first | rwa [add_block] at this | exact this) GW624.out)) | (dsimp only; exact Nat.ne_of_lt (Nat.lt_of_lt_of_le (by have := World.block_lt_of_cell? _ _ hw620_1; first | rwa [add_block] at this | exact this) GW624.out))) _).trans (hHeld.2.2.2))))⟩ (fun hHeld => ?_)
                 clear hK K
                 refine pw_ 11 14 (tl_ 12 4095) rfl rfl ?_
                 refine done_ (done_of HT_.out (g0_)) ?_
                 have hnb106 := NB608_599.out
                 have hnc106 := NB599_608.out
                 have hnb107 := NB608_619.out
                 have hnc107 := NB619_608.out
                 have hnb108 := NB608_624.out
                 have hnc108 := NB624_608.out
                 obtain ⟨hcz109_0, hcz109_1, hfz109_0, hfz109_1⟩ := blk2_ BK608
                 have hnb110 := NB624_599.out
                 have hnc110 := NB599_624.out
                 have hnb111 := NB624_619.out
                 have hnc111 := NB619_624.out
                 obtain ⟨hcz112_0, hcz112_1, hfz112_0, hfz112_1⟩ := blk2_ BK624
                 try go_wp2_with (first | ((with_reducible refine gate_callee (f := 76) rfl ?_); refine goesL_ (some 76) rfl rfl Try.func76 k_ rfl #[.agg #[.int .i64 x609000_2, .int .i64 x609001_2], .agg #[.int .i64 t621, .int .i64 t622]] rfl (g2_) ?_; (with_reducible refine (spec_PlusOf.calls k2 x609000_2 x609001_2 t621 t622 t625 t626 t627 _ A30.out).mono ?_); rintro e w113 ⟨rfl, hb⟩; refine ⟨_, rfl, ?_⟩; replace HO_6 := Aside0.mk (Kd.R_below (g162_) hb); replace HO_7 := Aside0.mk (Kd.R_below (g163_) hb); replace BK599 := Aside0.mk (blk_below (g := gb599) (o := .cells #[.slice (some ad607) l0_0.length c0_0, .slice (some ad613) l0_1.length c0_1] 26 (0, 0)) (g164_) hb); replace BK608 := Aside0.mk (blk_below (g := gb608) (o := .cells #[.int .i64 x609000_2, .int .i64 x609001_2] 36 (0, 0)) (g165_) hb); replace BK619 := Aside0.mk (blk_below (g := gb619) (o := .cells #[.int .i64 t616, .int .i64 t617] 36 (0, 0)) (g166_) hb); replace BK624 := Aside0.mk (blk_below (g := gb624) (o := .cells #[.int .i64 t621, .int .i64 t622] 36 (0, 0)) (g167_) hb); replace HB := Aside0.mk (below_step (spec_GetsOf.calls_q0) hb); (try clear hb); (try clear hk hi)) | ((with_reducible refine gate_dst (N := 15) rfl ?_); refine bx_ (N := 15) #[.int .i64 0, .int .i64 0] 36 ?_; intro gb628 hg w114 hbox hb; replace HO_6 := Aside0.mk (Kd.R_below (Kd.R_elderB (uf1_ HO_6) gb628 (Nat.le_of_eq hg.symm)) hb); replace HO_7 := Aside0.mk (Kd.R_below (uf1_ HO_7) hb); have BK628 := Aside0.mk (hbox); have GW628 := Aside0.mk ((g6_ : w.heap.size ≤ gb628)); have GE628 := Aside0.mk ((g6_ : w.heap.size ≤ gb628)); replace HB := Aside0.mk (below_step (spec_GetsOf.calls_q0) hb); have NB599_628 := Aside0.mk ((g25_ : gb599 ≠ gb628)); have NB628_599 := Aside0.mk ((g26_ : gb628 ≠ gb599)); replace BK599 := Aside0.mk (blk_below (g := gb599) (o := .cells #[.slice (some ad607) l0_0.length c0_0, .slice (some ad613) l0_1.length c0_1] 26 (0, 0)) (uf0_ BK599) hb); have NB608_628 := Aside0.mk ((g27_ : gb608 ≠ gb628)); have NB628_608 := Aside0.mk ((g28_ : gb628 ≠ gb608)); replace BK608 := Aside0.mk (blk_below (g := gb608) (o := .cells #[.int .i64 x609000_2, .int .i64 x609001_2] 36 (0, 0)) (uf0_ BK608) hb); have NB619_628 := Aside0.mk ((g39_ : gb619 ≠ gb628)); have NB628_619 := Aside0.mk ((g40_ : gb628 ≠ gb619)); replace BK619 := Aside0.mk (blk_below (g := gb619) (o := .cells #[.int .i64 t616, .int .i64 t617] 36 (0, 0)) (uf0_ BK619) hb); have NB624_628 := Aside0.mk ((g168_ : gb624 ≠ gb628)); have NB628_624 := Aside0.mk ((g169_ : gb628 ≠ gb624)); replace BK624 := Aside0.mk (blk_below (g := gb624) (o := .cells #[.int .i64 t621, .int .i64 t622] 36 (0, 0)) (uf0_ BK624) hb); clear hb hbox hg; have hnb115 := NB628_599.out; have hnc115 := NB599_628.out; have hnb116 := NB628_608.out; have hnc116 := NB608_628.out; have hnb117 := NB628_619.out; have hnc117 := NB619_628.out; have hnb118 := NB628_624.out; have hnc118 := NB624_628.out; obtain ⟨hcz119_0, hcz119_1, hfz119_0, hfz119_1⟩ := blk2_ BK628) | ((with_reducible refine gate_dst (N := 85) rfl ?_); refine Kd.R_lit k36 _ 36 ?hg (N := 85) ?hd (xs := ([] : List (S36))) (inner := []) (ok := fun _ => True) (okp := fun _ => True) ?hr ?hp (fun _ hk => hk) trivial (Below.refl _ _) (Nat.le_refl _) (by simp) ?_; (case hd => rfl); (case hg => rfl); (case hr => first | (go_simp; done) | (go_simp; rfl)); (case hp => exact (Reps.none _ _)); intro v633 w120 ho121 hb hg_ hnew_; clear hg_ hnew_; (first | rw [← Ny632.out] at ho121 | (simp only [Int.reduceToNat] at ho121; rw [← Ny632.out] at ho121)); replace HO_7 := Aside0.mk (Kd.R_below (by (with_reducible repeat (first | apply Kd.R_alloc | apply Kd.R_drewN | apply Kd.R_drew)); exact (Kd.R_mono (Kd.R_far (p := ⟨gb628, 1, none⟩) (Kd.R_far (p := ⟨gb628, 0, none⟩) (Kd.R_types HO_7.out BK628.out (by decide)) (fun _ hk => hk.2) (.int .i64 t625)) (fun _ hk => hk.2) (.int .i64 t626)) (fun _ h_ => h_.1))) hb); have HO634 := Aside0.mk (Kd.R_lower (Kd.R_newB (Kd.R_newB (Kd.R_newB (Kd.R_newB (Kd.R_new' ho121 (Kd.R_lt (g101_))) (g := gb608) (o := .cells #[.int .i64 x609000_2, .int .i64 x609001_2] 36 (0, 0)) (g102_)) (g := gb619) (o := .cells #[.int .i64 t616, .int .i64 t617] 36 (0, 0)) (g103_)) (g := gb624) (o := .cells #[.int .i64 t621, .int .i64 t622] 36 (0, 0)) (g104_)) (g := gb628) (o := .cells #[.int .i64 t625, .int .i64 t626] 36 (0, 0)) (g105_)) (below_size (spec_GetsOf.calls_q0))); replace HO_6 := Aside0.mk (Kd.R_elder' (g101_) (Kd.R_base ho121) hb); replace BK599 := Aside0.mk (blk_below (g := gb599) (o := .cells #[.slice (some ad607) l0_0.length c0_0, .slice (some ad613) l0_1.length c0_1] 26 (0, 0)) (by (with_reducible repeat (first | refine blk_drewN ?_ _ | refine blk_drew ?_ | refine blk_alloc ?_ _)); refine blk_far ?_ NB599_628.out _; (with_reducible repeat (first | refine blk_drewN ?_ _ | refine blk_drew ?_ | refine blk_alloc ?_ _)); refine blk_far ?_ NB599_628.out _; (with_reducible repeat (first | refine blk_drewN ?_ _ | refine blk_drew ?_ | refine blk_alloc ?_ _)); exact BK599.out) hb); replace BK608 := Aside0.mk (blk_below (g := gb608) (o := .cells #[.int .i64 x609000_2, .int .i64 x609001_2] 36 (0, 0)) (g102_) hb); replace BK619 := Aside0.mk (blk_below (g := gb619) (o := .cells #[.int .i64 t616, .int .i64 t617] 36 (0, 0)) (g103_) hb); replace BK624 := Aside0.mk (blk_below (g := gb624) (o := .cells #[.int .i64 t621, .int .i64 t622] 36 (0, 0)) (g104_) hb); replace BK628 := Aside0.mk (blk_below (g := gb628) (o := .cells #[.int .i64 t625, .int .i64 t626] 36 (0, 0)) (g105_) hb); replace HB := Aside0.mk (below_step (spec_GetsOf.calls_q0) hb); clear hb ho121))
                 go_ret2
                 exact ⟨_, g4_, by (with_reducible repeat (first | apply Kd.R_alloc | apply Kd.R_drewN | apply Kd.R_drew)); exact Kd.R_mono HO634.out (fun _ hk => trivial), spec_GetsOf.calls_q0⟩
               ·rw [if_neg c27] at H
                exact absurd H (by simp)
              ·rw [if_neg c26] at H
               exact absurd H (by simp)
             ·rw [if_neg c25] at H
              exact absurd H (by simp)
           ·rw [if_neg c22] at H
            exact absurd H (by simp)
          ·rw [if_neg c21] at H
           exact absurd H (by simp)
         ·rw [if_neg c20] at H
          have c20b0 := decide_eq_false c20
          clear c20
          by_cases c122 : x6_1.length < 8796093022208
          ·rw [if_pos c122] at H
           have LMc122 := Aside0.mk c122
           clear c122
           obtain ⟨y609, hy609⟩ : ∃ y_ : List (S36), y_ = (x6_1 ++ [(⟨x609000_2, x609001_2⟩ : S36)]) := ⟨_, rfl⟩
           replace H : (spec_GetsOf.l0 k2 l1 y609 t604 (wrap64 (x8_1 + 1)) l0_0 l0_1) = some (r1, r2) := by first | (rw [hy609]; with_reducible exact H) | (have H2_ := (Option.bind_some _ _).symm.trans H; rw [hy609]; with_reducible exact H2_) | (have H2_ := (Option.bind_some _ _).symm.trans H; with_reducible exact H2_) | with_reducible exact H | (rw [hy609]; exact H) | exact H
           have Ny609 := Aside0.mk hy609
           clear hy609
           have H' := Aside0.mk H
           clear H
           have hnb123 := NB608_599.out
           have hnc123 := NB599_608.out
           obtain ⟨hcz124_0, hcz124_1, hfz124_0, hfz124_1⟩ := blk2_ BK608
           go_wp2_with (first | ((with_reducible refine gate_builtin (b := .append) (xs := #[.tmp 87, .tmp 89]) rfl ?_); at_builtin; refine Kd.R_append k36 (w0 := w) w.heap.size rfl (.tmp 87) (.tmp 89) 28 36 (.agg #[(.int .i64 0), (.int .i64 0)]) 16 rfl Try.underlying28 info36 rfl (by decide) (by omega) u6 x6_1 (⟨x609000_2, x609001_2⟩ : S36) [.int .i64 x609000_2, .int .i64 x609001_2] (fun k_ => k_ ≠ gb608) (fun _ => False) rfl rfl ?aP (fun _ hk => hk.elim) ?aF ?aO ?aB ?aS ?aL ?_; (case aP => exact k36_mkM _ _ _ (⟨x609000_2, x609001_2⟩ : S36)); (case aB => exact (spec_GetsOf.calls_q0)); (case aF => exact (fun k_ hk => Kd.freshB (g := gb608) (o := .cells #[.int .i64 x609000_2, .int .i64 x609001_2] 36 (0, 0)) (uf0_ BK608) k_ hk)); (case aO => exact (uf1_ HO_6)); (case aS => exact (below_size (spec_GetsOf.calls_q0))); (case aL => have := LMc122.out; omega); intro v610 w125 ho hb hg hat; rw [← Ny609.out] at ho; replace HO_7 := Aside0.mk (Kd.R_over' (uf1_ HO_7) (Kd.R_typed (uf1_ HO_6)) (by decide) hg); replace BK599 := Aside0.mk (blk_grown (g := gb599) (o := .cells #[.slice (some ad607) l0_0.length c0_0, .slice A0_1 l0_1.length c0_1] 26 (0, 0)) (uf0_ BK599) hg (Kd.R_ne HO_6.out BK599.out (by decide))); replace BK608 := Aside0.mk (blk_grown (g := gb608) (o := .cells #[.int .i64 x609000_2, .int .i64 x609001_2] 36 (0, 0)) (uf0_ BK608) hg (Kd.R_away HO_6.out (fun _ hk => hk))); replace HB := Aside0.mk (hb); have HO611 := Aside0.mk (ho); clear HO_6; clear ho hb hg hat))
           go_roundg k2
           case measure => have := HK1.out; have := HK2.out; omega
           case rel => exact ⟨(y609), (wrap64 (x8_1 + 1)), (g3_), H', ⟨g34_⟩, ⟨by (with_reducible repeat (first | apply Kd.R_alloc | apply Kd.R_drewN | apply Kd.R_drew)); exact Kd.R_mono HO611.out (fun _ hk => trivial)⟩, ⟨uf1_ HO_7⟩, ⟨uf0_ BK599⟩, ⟨spec_GetsOf.calls_q0⟩⟩
          ·rw [if_neg c122] at H
           exact absurd H (by simp)
      ·rw [if_neg c15] at H
       exact absurd H (by simp)
     ·rw [if_neg c14] at H
      exact absurd H (by simp)
    ·rw [if_neg c13] at H
     have c13b0 := decide_eq_false c13
     clear c13
     simp only [Option.some.injEq, Prod.mk.injEq] at H
     obtain ⟨rfl, rfl⟩ := H
     go_wp2
     go_ret2
     exact ⟨_, g4_, uf1_ HO_6, spec_GetsOf.calls_q0⟩
 ·replace c4 := Bool.eq_false_iff.mpr c4
  subst c4
  replace H := ifn_ H
  simp only [Option.some.injEq, Prod.mk.injEq] at H
  obtain ⟨rfl, rfl⟩ := H
  go_enter Try.func30, Try.ntmps30
  go_wp2_with (first | ((with_reducible refine gate_dst (N := 2) rfl ?_); refine bx_ (N := 2) #[.slice A0_0 l0_0.length c0_0, .slice A0_1 l0_1.length c0_1] 26 ?_; intro gb599 hg w126 hbox hb; have BK599 := Aside0.mk (hbox); have GW599 := Aside0.mk ((g6_ : w.heap.size ≤ gb599)); have GE599 := Aside0.mk ((g6_ : w.heap.size ≤ gb599)); replace HB := Aside0.mk (below_step (spec_GetsOf.calls_q0) hb); clear hb hbox hg) | ((with_reducible refine gate_dst (N := 17) rfl ?_); refine Kd.R_lit k36 _ 36 ?hg (N := 17) ?hd (xs := ([] : List (S36))) (inner := []) (ok := fun _ => True) (okp := fun _ => True) ?hr ?hp (fun _ hk => hk) trivial (Below.refl _ _) (Nat.le_refl _) (by simp) ?_; (case hd => rfl); (case hg => rfl); (case hr => first | (go_simp; done) | (go_simp; rfl)); (case hp => exact (Reps.none _ _)); intro v601 w127 ho128 hb hg_ hnew_; clear hg_ hnew_; (first | rw [← Ny600.out] at ho128 | (simp only [Int.reduceToNat] at ho128; rw [← Ny600.out] at ho128)); have HO602 := Aside0.mk (Kd.R_lower ho128 (below_size (spec_GetsOf.calls_q0))); replace BK599 := Aside0.mk (blk_below (g := gb599) (o := .cells #[.slice A0_0 l0_0.length c0_0, .slice A0_1 l0_1.length c0_1] 26 (0, 0)) (uf0_ BK599) hb); replace HB := Aside0.mk (below_step (spec_GetsOf.calls_q0) hb); clear hb ho128; obtain ⟨hcz129_0, hcz129_1, hfz129_0, hfz129_1⟩ := blk2_ BK599) | ((with_reducible refine gate_callee (f := 21) rfl ?_); refine goesL_ (some 20) rfl rfl Try.func21 k_ rfl #[.agg #[.slice A0_0 l0_0.length c0_0, .slice A0_1 l0_1.length c0_1], .slice A1 l1.length c1] rfl (g2_) ?_; (with_reducible refine (spec_PaysOk.calls k _ _ l0_0 _ _ l0_1 _ _ l1 false _ ?side1 ?side2 ?side3 ?side4 ?side5 ?side6 A3.out).mono ?_); (case side1 => exact uf4_ HR0_0); (case side2 => exact HC0_0.out); (case side3 => exact uf4_ HR0_1); (case side4 => exact HC0_1.out); (case side5 => exact uf4_ HR1); (case side6 => exact HC1.out); rintro e w130 ⟨rfl, hb⟩; refine ⟨_, rfl, ?_⟩; replace HO602 := Aside0.mk (Kd.R_below (uf1_ HO602) hb); replace BK599 := Aside0.mk (blk_below (g := gb599) (o := .cells #[.slice A0_0 l0_0.length c0_0, .slice A0_1 l0_1.length c0_1] 26 (0, 0)) (uf0_ BK599) hb); replace HB := Aside0.mk (below_step (spec_GetsOf.calls_q0) hb); (try clear hb); (try clear hk hi)))
  go_ret2
  exact ⟨_, g4_, uf1_ HO602, spec_GetsOf.calls_q0⟩
end Go.Proofs.Ytigpmfoagkhaeaa.PU

namespace Go.Proofs.Ytigpmfoagkhaeaa.PU
open Go.RowKit Go.Proofs.YtigpmfoagkhaeaaW.PrintWords Go.Proofs.YtigpmfoagkhaeaaW.PrintLast Go.Proofs.YtigpmfoagkhaeaaW.PrintMore Go.Proofs.Ytigpmfoagkhaeaa.Qd
attribute [local go_sem] max2_int min2_int max_two min_two max_three min_three max_four min_four   -- for this text's walks alone
set_option linter.unusedVariables false
set_option linter.unusedSimpArgs false
mutual
def spec_OwedOf.l0 : Nat → List Int → Int → List Int → List (List Int) → Option (List Int)
 | 0, _, _, _, _ => none
 | k + 1, x3, x4, x636000, x636001 => if x4 < (x636000.length : Int) then ((spec_BookOk.f k x636000 x636001).bind fun t639 => (spec_OwedOf.j1 k x3 x4 t639 x636000 x636001)) else (spec_OwedOf.j1 k x3 x4 false x636000 x636001)
def spec_OwedOf.j1 : Nat → List Int → Int → Bool → List Int → List (List Int) → Option (List Int)
 | 0, _, _, _, _, _ => none
 | k + 1, x3, x4, x16, x636000, x636001 => if x16 = true then (spec_OwedOf.l1 k x3 x4 0 0 x636000 x636001) else (some x3)
def spec_OwedOf.l1 : Nat → List Int → Int → Int → Int → List Int → List (List Int) → Option (List Int)
 | 0, _, _, _, _, _, _ => none
 | k + 1, x3, x4, x5, x6, x636000, x636001 => if x6 < (x636000.length : Int) then (if 0 ≤ x6 then (if x6 < (x636001.length : Int) then (if 0 ≤ x4 then (if x4 < ((rd_L2 x636001 x6).length : Int) then (spec_OwedOf.l1 k x3 x4 (wrap64 (x5 + (rd (rd_L2 x636001 x6) x4))) (wrap64 (x6 + 1)) x636000 x636001) else (none)) else (none)) else (none)) else (none)) else (if x3.length < 17592186044416 then (spec_OwedOf.l0 k (x3 ++ [x5]) (wrap64 (x4 + 1)) x636000 x636001) else (none))
end
def spec_OwedOf.f (k : Nat) (l0_0 : List Int) (l0_1 : List (List Int)) : Option (List Int) := spec_OwedOf.l0 k (([] : List Int)) 0 l0_0 l0_1
theorem spec_OwedOf.mono_l : ∀ k, (∀ y0 y1 y2 y3, LeO (spec_OwedOf.l0 k y0 y1 y2 y3) (spec_OwedOf.l0 (k + 1) y0 y1 y2 y3)) ∧ (∀ y0 y1 y2 y3 y4, LeO (spec_OwedOf.j1 k y0 y1 y2 y3 y4) (spec_OwedOf.j1 (k + 1) y0 y1 y2 y3 y4)) ∧ (∀ y0 y1 y2 y3 y4 y5, LeO (spec_OwedOf.l1 k y0 y1 y2 y3 y4 y5) (spec_OwedOf.l1 (k + 1) y0 y1 y2 y3 y4 y5))
 | 0 => ⟨fun _ _ _ _ r h => by simp [spec_OwedOf.l0] at h, fun _ _ _ _ _ r h => by simp [spec_OwedOf.j1] at h, fun _ _ _ _ _ _ r h => by simp [spec_OwedOf.l1] at h⟩
 | k + 1 => by
  obtain ⟨ih0, ih1, ih2⟩ := spec_OwedOf.mono_l k
  refine ⟨?_, ?_, ?_⟩
  ·intro y0 y1 y2 y3
   unfold spec_OwedOf.l0
   repeat' first
   | (with_reducible exact ih0 _ _ _ _)
   | (with_reducible exact ih1 _ _ _ _ _)
   | (with_reducible exact ih2 _ _ _ _ _ _)
   | (with_reducible exact spec_BookOk.mono _ _ _)
   | (with_reducible exact LeO.refl _)
   | (with_reducible exact LeO.none _)
   | (with_reducible refine LeO.ite ?_ ?_)
   | (with_reducible refine LeO.bind ?_ (fun _ => ?_))
   | exact ih0 _ _ _ _
   | exact ih1 _ _ _ _ _
   | exact ih2 _ _ _ _ _ _
   | exact spec_BookOk.mono _ _ _
   | exact LeO.none _
   | refine LeO.ite ?_ ?_
   | refine LeO.bind ?_ (fun _ => ?_)
  ·intro y0 y1 y2 y3 y4
   unfold spec_OwedOf.j1
   repeat' first
   | (with_reducible exact ih0 _ _ _ _)
   | (with_reducible exact ih1 _ _ _ _ _)
   | (with_reducible exact ih2 _ _ _ _ _ _)
   | (with_reducible exact spec_BookOk.mono _ _ _)
   | (with_reducible exact LeO.refl _)
   | (with_reducible exact LeO.none _)
   | (with_reducible refine LeO.ite ?_ ?_)
   | (with_reducible refine LeO.bind ?_ (fun _ => ?_))
   | exact ih0 _ _ _ _
   | exact ih1 _ _ _ _ _
   | exact ih2 _ _ _ _ _ _
   | exact spec_BookOk.mono _ _ _
   | exact LeO.none _
   | refine LeO.ite ?_ ?_
   | refine LeO.bind ?_ (fun _ => ?_)
  ·intro y0 y1 y2 y3 y4 y5
   unfold spec_OwedOf.l1
   repeat' first
   | (with_reducible exact ih0 _ _ _ _)
   | (with_reducible exact ih1 _ _ _ _ _)
   | (with_reducible exact ih2 _ _ _ _ _ _)
   | (with_reducible exact spec_BookOk.mono _ _ _)
   | (with_reducible exact LeO.refl _)
   | (with_reducible exact LeO.none _)
   | (with_reducible refine LeO.ite ?_ ?_)
   | (with_reducible refine LeO.bind ?_ (fun _ => ?_))
   | exact ih0 _ _ _ _
   | exact ih1 _ _ _ _ _
   | exact ih2 _ _ _ _ _ _
   | exact spec_BookOk.mono _ _ _
   | exact LeO.none _
   | refine LeO.ite ?_ ?_
   | refine LeO.bind ?_ (fun _ => ?_)
theorem spec_OwedOf.mono : ∀ a0 a1 k, LeO (spec_OwedOf.f k a0 a1) (spec_OwedOf.f (k + 1) a0 a1) := by
 intro a0 a1 k
 obtain ⟨ih0, ih1, ih2⟩ := spec_OwedOf.mono_l k
 unfold spec_OwedOf.f
 repeat' first
   | (with_reducible exact ih0 _ _ _ _)
   | (with_reducible exact ih1 _ _ _ _ _)
   | (with_reducible exact ih2 _ _ _ _ _ _)
   | (with_reducible exact spec_BookOk.mono _ _ _)
   | (with_reducible exact LeO.refl _)
   | (with_reducible exact LeO.none _)
   | (with_reducible refine LeO.ite ?_ ?_)
   | (with_reducible refine LeO.bind ?_ (fun _ => ?_))
   | exact ih0 _ _ _ _
   | exact ih1 _ _ _ _ _
   | exact ih2 _ _ _ _ _ _
   | exact spec_BookOk.mono _ _ _
   | exact LeO.none _
   | refine LeO.ite ?_ ?_
   | refine LeO.bind ?_ (fun _ => ?_)
theorem spec_OwedOf.calls_q0 {p : Prop} (h : p := by repeat (first | (with_reducible first | exact HB.out | apply below_alloc | apply pw_below_drewN | apply below_drew1 | refine below_set ?_ GE635.out) | exact HB.out)) : p := h
set_option maxHeartbeats 8000000 in
set_option maxRecDepth 100000 in
theorem spec_OwedOf.calls (k : Nat) (A0_0 : Option Addr) (c0_0 : Nat) (l0_0 : List Int) (A0_1 : Option Addr) (c0_1 : Nat) (l0_1 : List (List Int)) (r : List Int) (w : World) (hr0_0 : Kd.C (Kd.int .i64) w A0_0 l0_0.length l0_0) (hc0_0 : l0_0.length ≤ c0_0) (hr0_1 : Kd.C (Kd.slice 3 (Kd.int .i64)) w A0_1 l0_1.length l0_1) (hc0_1 : l0_1.length ≤ c0_1) (h : spec_OwedOf.f k l0_0 l0_1 = some r) :
  Calls Try.prog 31 #[.agg #[.slice A0_0 l0_0.length c0_0, .slice A0_1 l0_1.length c0_1]] w fun e w' => ∃ v0_ : Value, e = .returned (v0_) ∧ Kd.R (Kd.int .i64) 3 w' w.heap.size (fun _ => True) v0_ r ∧ Below w.heap.size w w' := by
 have hu26 := Try.underlying26
 have HR0_0 := Aside0.mk hr0_0
 have HC0_0 := Aside0.mk hc0_0
 clear hr0_0 hc0_0
 have HR0_1 := Aside0.mk hr0_1
 have HC0_1 := Aside0.mk hc0_1
 clear hr0_1 hc0_1
 have HB := Aside0.mk (Below.refl w.heap.size w)
 have H : (spec_OwedOf.l0 k (([] : List Int)) 0 l0_0 l0_1) = some r := h
 clear h
 obtain ⟨y636, hy636⟩ : ∃ y_ : List Int, y_ = (([] : List Int)) := ⟨_, rfl⟩
 replace H : (spec_OwedOf.l0 k y636 0 l0_0 l0_1) = some r := by first | (rw [hy636]; with_reducible exact H) | (have H2_ := (Option.bind_some _ _).symm.trans H; rw [hy636]; with_reducible exact H2_) | (have H2_ := (Option.bind_some _ _).symm.trans H; with_reducible exact H2_) | with_reducible exact H | (rw [hy636]; exact H) | exact H
 have Ny636 := Aside0.mk hy636
 clear hy636
 have H' := Aside0.mk H
 clear H
 go_enter Try.func31, Try.ntmps31
 go_wp2_with (first | ((with_reducible refine gate_dst (N := 1) rfl ?_); refine bx_ (N := 1) #[.slice A0_0 l0_0.length c0_0, .slice A0_1 l0_1.length c0_1] 26 ?_; intro gb635 hg w2 hbox hb; have BK635 := Aside0.mk (hbox); have GW635 := Aside0.mk ((by rw [hg]; exact (below_size (spec_OwedOf.calls_q0)) : w.heap.size ≤ gb635)); have GE635 := Aside0.mk ((by rw [hg]; exact (below_size (spec_OwedOf.calls_q0)) : w.heap.size ≤ gb635)); replace HB := Aside0.mk (below_step (spec_OwedOf.calls_q0) hb); clear hb hbox hg) | ((with_reducible refine gate_dst (N := 7) rfl ?_); refine Kd.R_lit (Kd.int .i64) _ 3 ?hg (N := 7) ?hd (xs := ([] : List Int)) (inner := []) (ok := fun _ => True) (okp := fun _ => True) ?hr ?hp (fun _ hk => hk) trivial (Below.refl _ _) (Nat.le_refl _) (by simp) ?_; (case hd => rfl); (case hg => rfl); (case hr => first | (go_simp; done) | (go_simp; rfl)); (case hp => exact (Reps.none _ _)); intro v637 w3 ho4 hb hg_ hnew_; clear hg_ hnew_; (first | rw [← Ny636.out] at ho4 | (simp only [Int.reduceToNat] at ho4; rw [← Ny636.out] at ho4)); have HO638 := Aside0.mk (Kd.R_lower ho4 (below_size (spec_OwedOf.calls_q0))); replace BK635 := Aside0.mk (blk_below (g := gb635) (o := .cells #[.slice A0_0 l0_0.length c0_0, .slice A0_1 l0_1.length c0_1] 26 (0, 0)) (uf0_ BK635) hb); replace HB := Aside0.mk (below_step (spec_OwedOf.calls_q0) hb); clear hb ho4))
 go_loopg [3, 4] k (fun kq v3 v4 w' => ∃ (x3_1 : List Int) (x4_1 : Int), v4 = .int .i64 x4_1 ∧ Aside0 (spec_OwedOf.l0 kq x3_1 x4_1 l0_0 l0_1 = some r) ∧ Aside0 (kq ≤ k) ∧ Aside0 (Kd.R (Kd.int .i64) 3 w' w.heap.size (fun _ => True) v3 x3_1) ∧ Aside0 (w'.heap[gb635]? = some (.cells #[(.slice A0_0 l0_0.length c0_0), (.slice A0_1 l0_1.length c0_1)] 26 (0, 0))) ∧ Aside0 (Below w.heap.size w w'))
 case atStart => exact ⟨(y636), (0), (g3_), H', ⟨Nat.le_refl _⟩, ⟨uf1_ HO638⟩, ⟨uf0_ BK635⟩, ⟨spec_OwedOf.calls_q0⟩⟩
 case round =>
  clear H'
  try clear p2
  try clear c3
  obtain ⟨x3_1, x4_1, rfl, HA, HK1, HO_3, BK635, HB⟩ := hrel
  cases gk with
  | zero => exact absurd HA.out (by simp [spec_OwedOf.l0])
  | succ k1 =>
   have H := HA.out
   clear HA
   simp only [spec_OwedOf.l0] at H
   have HC5 := Aside0.mk H
   clear H
   go_upto_region 3 with (fail)
   go_cut [16] (fun v16 wc => ∃ (kq : Nat) (x16_4 : Bool), v16 = .bool x16_4 ∧ Aside0 (spec_OwedOf.j1 kq x3_1 x4_1 x16_4 l0_0 l0_1 = some r) ∧ Aside0 (kq ≤ k1) ∧ Aside0 (Kd.R (Kd.int .i64) 3 wc w.heap.size (fun _ => True) u3 x3_1) ∧ Aside0 (wc.heap[gb635]? = some (.cells #[(.slice A0_0 l0_0.length c0_0), (.slice A0_1 l0_1.length c0_1)] 26 (0, 0))) ∧ Aside0 (Below w.heap.size w wc))
   case first =>
    have H := HC5.out
    clear HC5
    by_cases c6 : x4_1 < (l0_0.length : Int)
    ·rw [if_pos c6] at H
     have c6b0 := decide_eq_true c6
     clear c6
     (first | rw [c6b0] | (simp only [i64_w, i32_w]; rw [c6b0]) | skip)
     obtain ⟨t639, A7, H⟩ := bind_ H
     have H' := Aside0.mk H
     clear H
     obtain ⟨hcz8_0, hcz8_1, hfz8_0, hfz8_1⟩ := blk2_ BK635
     go_wp2_with (first | (go_at_call 56; (with_reducible refine (spec_BookOk.calls k1 _ _ l0_0 _ _ l0_1 t639 _ ?side1 ?side2 ?side3 ?side4 A7.out).mono ?_); (case side1 => exact uf4_ HR0_0); (case side2 => exact HC0_0.out); (case side3 => exact uf4_ HR0_1); (case side4 => exact HC0_1.out); rintro e w9 ⟨rfl, hb⟩; replace HO_3 := Aside0.mk (Kd.R_below (uf1_ HO_3) hb); replace BK635 := Aside0.mk (blk_below (g := gb635) (o := .cells #[.slice A0_0 l0_0.length c0_0, .slice A0_1 l0_1.length c0_1] 26 (0, 0)) (uf0_ BK635) hb); replace HB := Aside0.mk (below_step (spec_OwedOf.calls_q0) hb); (try clear hb); (try clear hk hi)))
     go_meet
     case rel => exact ⟨_, (t639), (g3_), H', ⟨g30_⟩, ⟨uf1_ HO_3⟩, ⟨uf0_ BK635⟩, ⟨spec_OwedOf.calls_q0⟩⟩
    ·rw [if_neg c6] at H
     have c6b0 := decide_eq_false c6
     clear c6
     (first | rw [c6b0] | (simp only [i64_w, i32_w]; rw [c6b0]) | skip)
     have H' := Aside0.mk H
     clear H
     obtain ⟨hcz10_0, hcz10_1, hfz10_0, hfz10_1⟩ := blk2_ BK635
     go_wp2
     go_meet
     case rel => exact ⟨_, (false), (g3_), H', ⟨g30_⟩, ⟨uf1_ HO_3⟩, ⟨uf0_ BK635⟩, ⟨spec_OwedOf.calls_q0⟩⟩
   case rest =>
    clear HC5
    try clear p2
    try clear c3
    try clear c6
    try clear c6b0
    try clear hcz10_0
    try clear hcz10_1
    try clear hcz8_0
    try clear hcz8_1
    try clear hfz10_0
    try clear hfz10_1
    try clear hfz8_0
    try clear hfz8_1
    try clear p2
    obtain ⟨kq, x16_4, rfl, HA, HJ4, HO_3, BK635, HB⟩ := hcut
    cases kq with
    | zero => exact absurd HA.out (by simp [spec_OwedOf.j1])
    | succ kj4 =>
     have H := HA.out
     clear HA
     simp only [spec_OwedOf.j1] at H
     by_cases c11 : x16_4 = true
     ·subst c11
      replace H := ifp_ H
      have H' := Aside0.mk H
      clear H
      go_wp2
      go_loopg [5, 6] kj4 (fun kq v5 v6 w' => ∃ (x5_3 : Int) (x6_3 : Int), v5 = .int .i64 x5_3 ∧ v6 = .int .i64 x6_3 ∧ Aside0 (spec_OwedOf.l1 kq x3_1 x4_1 x5_3 x6_3 l0_0 l0_1 = some r) ∧ Aside0 (kq ≤ kj4) ∧ Aside0 (Kd.R (Kd.int .i64) 3 w' w.heap.size (fun _ => True) u3 x3_1) ∧ Aside0 (w'.heap[gb635]? = some (.cells #[(.slice A0_0 l0_0.length c0_0), (.slice A0_1 l0_1.length c0_1)] 26 (0, 0))) ∧ Aside0 (Below w.heap.size w w'))
      case atStart => exact ⟨(0), (0), (g3_), (g3_), H', ⟨Nat.le_refl _⟩, ⟨uf1_ HO_3⟩, ⟨uf0_ BK635⟩, ⟨spec_OwedOf.calls_q0⟩⟩
      case round =>
       clear H'
       try clear c1
       try clear p2
       try clear c3
       try clear c6
       try clear c6b0
       try clear c11
       try clear hcz10_0
       try clear hcz10_1
       try clear hcz8_0
       try clear hcz8_1
       try clear hfz10_0
       try clear hfz10_1
       try clear hfz8_0
       try clear hfz8_1
       try clear p2
       obtain ⟨x5_3, x6_3, rfl, rfl, HA, HK3, HO_3, BK635, HB⟩ := hrel
       cases gk with
       | zero => exact absurd HA.out (by simp [spec_OwedOf.l1])
       | succ k3 =>
        have H := HA.out
        clear HA
        simp only [spec_OwedOf.l1] at H
        by_cases c12 : x6_3 < (l0_0.length : Int)
        ·rw [if_pos c12] at H
         have c12b0 := decide_eq_true c12
         clear c12
         by_cases c13 : 0 ≤ x6_3
         ·rw [if_pos c13] at H
          have c13b0 := decide_eq_true c13
          clear c13
          by_cases c14 : x6_3 < (l0_1.length : Int)
          ·rw [if_pos c14] at H
           have c14b0 := decide_eq_true c14
           clear c14
           by_cases c15 : 0 ≤ x4_1
           ·rw [if_pos c15] at H
            have c15b0 := decide_eq_true c15
            clear c15
            by_cases c16 : x4_1 < ((rd_L2 l0_1 x6_3).length : Int)
            ·rw [if_pos c16] at H
             have c16b0 := decide_eq_true c16
             clear c16
             have H' := Aside0.mk H
             clear H
             obtain ⟨hcz17_0, hcz17_1, hfz17_0, hfz17_1⟩ := blk2_ BK635
             have p640 : 0 ≤ (x6_3 : Int) := of_decide_eq_true (g1_)
             have q640 : x6_3 < (l0_1.length : Int) := of_decide_eq_true (g1_)
             obtain ⟨ad640, A640_0, c640_0, e640, hx640_0, hl640_0, hi640_0⟩ := at_L2 HR0_1.out x6_3 p640 q640
             cases e640
             replace hx640_0 := cl_ HB hx640_0
             have HR640_0 := Aside0.mk hi640_0
             have HC640_0 := Aside0.mk hl640_0
             clear hi640_0 hl640_0
             replace p640 := eq_true p640
             replace q640 := eq_true q640
             have p641 : 0 ≤ (x4_1 : Int) := of_decide_eq_true (g1_)
             have q641 : x4_1 < ((rd_L2 l0_1 x6_3).length : Int) := of_decide_eq_true (g1_)
             obtain ⟨ad641, e641, hx641_0⟩ := Kd.at_int HR640_0.out x4_1 p641 q641
             cases e641
             replace hx641_0 := cl_ HB hx641_0
             replace p641 := eq_true p641
             replace q641 := eq_true q641
             go_wp2
             go_roundg k3
             case measure => have := HK1.out; have := HJ4.out; have := HK3.out; omega
             case rel => exact ⟨(wrap64 (x5_3 + (rd (rd_L2 l0_1 x6_3) x4_1))), (wrap64 (x6_3 + 1)), (g3_), (g3_), H', ⟨g91_⟩, ⟨uf1_ HO_3⟩, ⟨uf0_ BK635⟩, ⟨spec_OwedOf.calls_q0⟩⟩
            ·rw [if_neg c16] at H
             exact absurd H (by simp)
           ·rw [if_neg c15] at H
            exact absurd H (by simp)
          ·rw [if_neg c14] at H
           exact absurd H (by simp)
         ·rw [if_neg c13] at H
          exact absurd H (by simp)
        ·rw [if_neg c12] at H
         have c12b0 := decide_eq_false c12
         clear c12
         by_cases c18 : x3_1.length < 17592186044416
         ·rw [if_pos c18] at H
          have LMc18 := Aside0.mk c18
          clear c18
          obtain ⟨y642, hy642⟩ : ∃ y_ : List Int, y_ = (x3_1 ++ [x5_3]) := ⟨_, rfl⟩
          replace H : (spec_OwedOf.l0 k3 y642 (wrap64 (x4_1 + 1)) l0_0 l0_1) = some r := by first | (rw [hy642]; with_reducible exact H) | (have H2_ := (Option.bind_some _ _).symm.trans H; rw [hy642]; with_reducible exact H2_) | (have H2_ := (Option.bind_some _ _).symm.trans H; with_reducible exact H2_) | with_reducible exact H | (rw [hy642]; exact H) | exact H
          have Ny642 := Aside0.mk hy642
          clear hy642
          have H' := Aside0.mk H
          clear H
          obtain ⟨hcz19_0, hcz19_1, hfz19_0, hfz19_1⟩ := blk2_ BK635
          go_wp2_with (first | ((with_reducible refine gate_builtin (b := .append) (xs := #[.tmp 36, .tmp 38]) rfl ?_); at_builtin; refine Kd.R_append (Kd.int .i64) (w0 := w) w.heap.size rfl (.tmp 36) (.tmp 38) 23 3 (.int .i64 0) 8 rfl Try.underlying23 info3 rfl (by decide) (by omega) u3 x3_1 x5_3 [.int .i64 x5_3] (fun _ => True) (fun _ => False) rfl rfl ?aP (fun _ hk => hk.elim) ?aF ?aO ?aB ?aS ?aL ?_; (case aP => exact rfl); (case aB => exact (spec_OwedOf.calls_q0)); (case aF => exact (fun _ _ => trivial)); (case aO => exact (uf1_ HO_3)); (case aS => exact (below_size (spec_OwedOf.calls_q0))); (case aL => have := LMc18.out; omega); intro v643 w20 ho hb hg hat; rw [← Ny642.out] at ho; replace BK635 := Aside0.mk (blk_grown (g := gb635) (o := .cells #[.slice A0_0 l0_0.length c0_0, .slice A0_1 l0_1.length c0_1] 26 (0, 0)) (uf0_ BK635) hg (Kd.R_ne HO_3.out BK635.out (by decide))); replace HB := Aside0.mk (hb); have HO644 := Aside0.mk (ho); clear HO_3; clear ho hb hg hat))
          go_roundg k3
          case measure => have := HK1.out; have := HJ4.out; have := HK3.out; omega
          case rel => exact ⟨(y642), (wrap64 (x4_1 + 1)), (g3_), H', ⟨g91_⟩, ⟨uf1_ HO644⟩, ⟨uf0_ BK635⟩, ⟨spec_OwedOf.calls_q0⟩⟩
         ·rw [if_neg c18] at H
          exact absurd H (by simp)
     ·replace c11 := Bool.eq_false_iff.mpr c11
      subst c11
      replace H := ifn_ H
      obtain rfl := Option.some.inj H
      go_wp2
      go_ret
      exact ⟨_, g4_, uf1_ HO_3, spec_OwedOf.calls_q0⟩
end Go.Proofs.Ytigpmfoagkhaeaa.PU

namespace Go.Proofs.Ytigpmfoagkhaeaa.PU
open Go.RowKit Go.Proofs.YtigpmfoagkhaeaaW.PrintWords Go.Proofs.YtigpmfoagkhaeaaW.PrintLast Go.Proofs.YtigpmfoagkhaeaaW.PrintMore Go.Proofs.Ytigpmfoagkhaeaa.Qd
attribute [local go_sem] max2_int min2_int max_two min_two max_three min_three max_four min_four   -- for this text's walks alone
set_option linter.unusedVariables false
set_option linter.unusedSimpArgs false
def impl_BeforeOf.f (k : Nat) (a0_0 : Int) (a0_1 : Int) (a1_0 : Int) (a1_1 : Int) : Option (Int) := (impl_isFrac.f k a0_0 a0_1).bind fun t647 => (if t647 = true then ((impl_isFrac.f k a1_0 a1_1).bind fun t648 => (if t648 = true then ((impl_compare.f a0_0 a0_1 a1_0 a1_1).bind fun t649 => (some t649)) else (some (-2)))) else (some (-2)))
theorem impl_BeforeOf.mono : ∀ a0 a1 a2 a3 k, LeO (impl_BeforeOf.f k a0 a1 a2 a3) (impl_BeforeOf.f (k + 1) a0 a1 a2 a3) := by
 intro a0 a1 a2 a3 k
 unfold impl_BeforeOf.f
 repeat' first
   | (with_reducible exact impl_isFrac.mono _ _ _)
   | (with_reducible exact LeO.refl _)
   | (with_reducible exact LeO.none _)
   | (with_reducible refine LeO.ite ?_ ?_)
   | (with_reducible refine LeO.bind ?_ (fun _ => ?_))
   | exact impl_isFrac.mono _ _ _
   | exact LeO.none _
   | refine LeO.ite ?_ ?_
   | refine LeO.bind ?_ (fun _ => ?_)
theorem impl_BeforeOf.calls_q0 {p : Prop} (h : p := by repeat (first | (with_reducible first | exact HB.out | apply below_alloc | apply pw_below_drewN | apply below_drew1 | refine below_set ?_ GE645.out | refine below_set ?_ GE646.out) | exact HB.out)) : p := h
set_option maxHeartbeats 8000000 in
set_option maxRecDepth 100000 in
theorem impl_BeforeOf.calls (k : Nat) (a0_0 : Int) (a0_1 : Int) (a1_0 : Int) (a1_1 : Int) (r : Int) (w : World) (h : impl_BeforeOf.f k a0_0 a0_1 a1_0 a1_1 = some r) :
  Calls Try.prog 32 #[.agg #[.int .i64 a0_0, .int .i64 a0_1], .agg #[.int .i64 a1_0, .int .i64 a1_1]] w fun e w' => e = .returned (.int .i64 r) ∧ Below w.heap.size w w' := by
 have hu36 := Try.underlying36
 have HB := Aside0.mk (Below.refl w.heap.size w)
 have H : ((impl_isFrac.f k a0_0 a0_1).bind fun t647 => (if t647 = true then ((impl_isFrac.f k a1_0 a1_1).bind fun t648 => (if t648 = true then ((impl_compare.f a0_0 a0_1 a1_0 a1_1).bind fun t649 => (some t649)) else (some (-2)))) else (some (-2)))) = some r := h
 clear h
 obtain ⟨t647, A3, H⟩ := bind_ H
 by_cases c4 : t647 = true
 ·subst c4
  replace H := ifp_ H
  obtain ⟨t648, A5, H⟩ := bind_ H
  by_cases c6 : t648 = true
  ·subst c6
   replace H := ifp_ H
   obtain ⟨t649, A7, H⟩ := bind_ H
   obtain rfl := Option.some.inj H
   go_enter Try.func32, Try.ntmps32
   go_wp2_with (first | ((with_reducible refine gate_dst (N := 2) rfl ?_); refine bx_ (N := 2) #[.int .i64 a0_0, .int .i64 a0_1] 36 ?_; intro gb645 hg w8 hbox hb; have BK645 := Aside0.mk (hbox); have GW645 := Aside0.mk ((g33_ : w.heap.size ≤ gb645)); have GE645 := Aside0.mk ((g33_ : w.heap.size ≤ gb645)); replace HB := Aside0.mk (below_step (impl_BeforeOf.calls_q0) hb); clear hb hbox hg) | ((with_reducible refine gate_dst (N := 3) rfl ?_); refine bx_ (N := 3) #[.int .i64 a1_0, .int .i64 a1_1] 36 ?_; intro gb646 hg w9 hbox hb; have BK646 := Aside0.mk (hbox); have GW646 := Aside0.mk ((g33_ : w.heap.size ≤ gb646)); have GE646 := Aside0.mk ((g33_ : w.heap.size ≤ gb646)); replace HB := Aside0.mk (below_step (impl_BeforeOf.calls_q0) hb); have NB645_646 := Aside0.mk ((g170_ : gb645 ≠ gb646)); have NB646_645 := Aside0.mk ((g171_ : gb646 ≠ gb645)); replace BK645 := Aside0.mk (blk_below (g := gb645) (o := .cells #[.int .i64 a0_0, .int .i64 a0_1] 36 (0, 0)) (uf0_ BK645) hb); clear hb hbox hg; have hnb10 := NB645_646.out; have hnc10 := NB646_645.out; obtain ⟨hcz11_0, hcz11_1, hfz11_0, hfz11_1⟩ := blk2_ BK645) | ((with_reducible refine gate_callee (f := 77) rfl ?_); refine goesL_ (some 6) rfl rfl Try.func77 k_ rfl #[.agg #[.int .i64 a0_0, .int .i64 a0_1]] rfl (g2_) ?_; (with_reducible refine (impl_isFrac.calls k a0_0 a0_1 true _ A3.out).mono ?_); rintro e w12 ⟨rfl, hb⟩; refine ⟨_, rfl, ?_⟩; replace BK645 := Aside0.mk (blk_below (g := gb645) (o := .cells #[.int .i64 a0_0, .int .i64 a0_1] 36 (0, 0)) (uf0_ BK645) hb); replace BK646 := Aside0.mk (blk_below (g := gb646) (o := .cells #[.int .i64 a1_0, .int .i64 a1_1] 36 (0, 0)) (uf0_ BK646) hb); replace HB := Aside0.mk (below_step (impl_BeforeOf.calls_q0) hb); (try clear hb); (try clear hk hi); obtain ⟨hcz13_0, hcz13_1, hfz13_0, hfz13_1⟩ := blk2_ BK646) | (go_at_call 77; (with_reducible refine (impl_isFrac.calls k a1_0 a1_1 true _ A5.out).mono ?_); rintro e w14 ⟨rfl, hb⟩; replace BK645 := Aside0.mk (blk_below (g := gb645) (o := .cells #[.int .i64 a0_0, .int .i64 a0_1] 36 (0, 0)) (uf0_ BK645) hb); replace BK646 := Aside0.mk (blk_below (g := gb646) (o := .cells #[.int .i64 a1_0, .int .i64 a1_1] 36 (0, 0)) (uf0_ BK646) hb); replace HB := Aside0.mk (below_step (impl_BeforeOf.calls_q0) hb); (try clear hb); (try clear hk hi); obtain ⟨hcz15_0, hcz15_1, hfz15_0, hfz15_1⟩ := blk2_ BK645; obtain ⟨hcz16_0, hcz16_1, hfz16_0, hfz16_1⟩ := blk2_ BK646) | ((with_reducible refine gate_callee (f := 78) rfl ?_); refine goesL_ (some 15) rfl rfl Try.func78 k_ rfl #[.agg #[.int .i64 a0_0, .int .i64 a0_1], .agg #[.int .i64 a1_0, .int .i64 a1_1]] rfl (g2_) ?_; (with_reducible refine (impl_compare.calls a0_0 a0_1 a1_0 a1_1 t649 _ A7.out).mono ?_); rintro e w17 ⟨rfl, hb⟩; refine ⟨_, rfl, ?_⟩; replace BK645 := Aside0.mk (blk_below (g := gb645) (o := .cells #[.int .i64 a0_0, .int .i64 a0_1] 36 (0, 0)) (uf0_ BK645) hb); replace BK646 := Aside0.mk (blk_below (g := gb646) (o := .cells #[.int .i64 a1_0, .int .i64 a1_1] 36 (0, 0)) (uf0_ BK646) hb); replace HB := Aside0.mk (below_step (impl_BeforeOf.calls_q0) hb); (try clear hb); (try clear hk hi)))
   go_ret
   exact ⟨g4_, impl_BeforeOf.calls_q0⟩
  ·replace c6 := Bool.eq_false_iff.mpr c6
   subst c6
   replace H := ifn_ H
   obtain rfl := Option.some.inj H
   go_enter Try.func32, Try.ntmps32
   go_wp2_with (first | ((with_reducible refine gate_dst (N := 2) rfl ?_); refine bx_ (N := 2) #[.int .i64 a0_0, .int .i64 a0_1] 36 ?_; intro gb645 hg w18 hbox hb; have BK645 := Aside0.mk (hbox); have GW645 := Aside0.mk ((g33_ : w.heap.size ≤ gb645)); have GE645 := Aside0.mk ((g33_ : w.heap.size ≤ gb645)); replace HB := Aside0.mk (below_step (impl_BeforeOf.calls_q0) hb); clear hb hbox hg) | ((with_reducible refine gate_dst (N := 3) rfl ?_); refine bx_ (N := 3) #[.int .i64 a1_0, .int .i64 a1_1] 36 ?_; intro gb646 hg w19 hbox hb; have BK646 := Aside0.mk (hbox); have GW646 := Aside0.mk ((g33_ : w.heap.size ≤ gb646)); have GE646 := Aside0.mk ((g33_ : w.heap.size ≤ gb646)); replace HB := Aside0.mk (below_step (impl_BeforeOf.calls_q0) hb); have NB645_646 := Aside0.mk ((g170_ : gb645 ≠ gb646)); have NB646_645 := Aside0.mk ((g171_ : gb646 ≠ gb645)); replace BK645 := Aside0.mk (blk_below (g := gb645) (o := .cells #[.int .i64 a0_0, .int .i64 a0_1] 36 (0, 0)) (uf0_ BK645) hb); clear hb hbox hg; have hnb20 := NB645_646.out; have hnc20 := NB646_645.out; obtain ⟨hcz21_0, hcz21_1, hfz21_0, hfz21_1⟩ := blk2_ BK645) | ((with_reducible refine gate_callee (f := 77) rfl ?_); refine goesL_ (some 6) rfl rfl Try.func77 k_ rfl #[.agg #[.int .i64 a0_0, .int .i64 a0_1]] rfl (g2_) ?_; (with_reducible refine (impl_isFrac.calls k a0_0 a0_1 true _ A3.out).mono ?_); rintro e w22 ⟨rfl, hb⟩; refine ⟨_, rfl, ?_⟩; replace BK645 := Aside0.mk (blk_below (g := gb645) (o := .cells #[.int .i64 a0_0, .int .i64 a0_1] 36 (0, 0)) (uf0_ BK645) hb); replace BK646 := Aside0.mk (blk_below (g := gb646) (o := .cells #[.int .i64 a1_0, .int .i64 a1_1] 36 (0, 0)) (uf0_ BK646) hb); replace HB := Aside0.mk (below_step (impl_BeforeOf.calls_q0) hb); (try clear hb); (try clear hk hi); obtain ⟨hcz23_0, hcz23_1, hfz23_0, hfz23_1⟩ := blk2_ BK646) | (go_at_call 77; (with_reducible refine (impl_isFrac.calls k a1_0 a1_1 false _ A5.out).mono ?_); rintro e w24 ⟨rfl, hb⟩; replace BK645 := Aside0.mk (blk_below (g := gb645) (o := .cells #[.int .i64 a0_0, .int .i64 a0_1] 36 (0, 0)) (uf0_ BK645) hb); replace BK646 := Aside0.mk (blk_below (g := gb646) (o := .cells #[.int .i64 a1_0, .int .i64 a1_1] 36 (0, 0)) (uf0_ BK646) hb); replace HB := Aside0.mk (below_step (impl_BeforeOf.calls_q0) hb); (try clear hb); (try clear hk hi)))
   go_ret
   exact ⟨g4_, impl_BeforeOf.calls_q0⟩
 ·replace c4 := Bool.eq_false_iff.mpr c4
  subst c4
  replace H := ifn_ H
  obtain rfl := Option.some.inj H
  go_enter Try.func32, Try.ntmps32
  go_wp2_with (first | ((with_reducible refine gate_dst (N := 2) rfl ?_); refine bx_ (N := 2) #[.int .i64 a0_0, .int .i64 a0_1] 36 ?_; intro gb645 hg w25 hbox hb; have BK645 := Aside0.mk (hbox); have GW645 := Aside0.mk ((g33_ : w.heap.size ≤ gb645)); have GE645 := Aside0.mk ((g33_ : w.heap.size ≤ gb645)); replace HB := Aside0.mk (below_step (impl_BeforeOf.calls_q0) hb); clear hb hbox hg) | ((with_reducible refine gate_dst (N := 3) rfl ?_); refine bx_ (N := 3) #[.int .i64 a1_0, .int .i64 a1_1] 36 ?_; intro gb646 hg w26 hbox hb; have BK646 := Aside0.mk (hbox); have GW646 := Aside0.mk ((g33_ : w.heap.size ≤ gb646)); have GE646 := Aside0.mk ((g33_ : w.heap.size ≤ gb646)); replace HB := Aside0.mk (below_step (impl_BeforeOf.calls_q0) hb); have NB645_646 := Aside0.mk ((g170_ : gb645 ≠ gb646)); have NB646_645 := Aside0.mk ((g171_ : gb646 ≠ gb645)); replace BK645 := Aside0.mk (blk_below (g := gb645) (o := .cells #[.int .i64 a0_0, .int .i64 a0_1] 36 (0, 0)) (uf0_ BK645) hb); clear hb hbox hg; have hnb27 := NB645_646.out; have hnc27 := NB646_645.out; obtain ⟨hcz28_0, hcz28_1, hfz28_0, hfz28_1⟩ := blk2_ BK645) | ((with_reducible refine gate_callee (f := 77) rfl ?_); refine goesL_ (some 6) rfl rfl Try.func77 k_ rfl #[.agg #[.int .i64 a0_0, .int .i64 a0_1]] rfl (g2_) ?_; (with_reducible refine (impl_isFrac.calls k a0_0 a0_1 false _ A3.out).mono ?_); rintro e w29 ⟨rfl, hb⟩; refine ⟨_, rfl, ?_⟩; replace BK645 := Aside0.mk (blk_below (g := gb645) (o := .cells #[.int .i64 a0_0, .int .i64 a0_1] 36 (0, 0)) (uf0_ BK645) hb); replace BK646 := Aside0.mk (blk_below (g := gb646) (o := .cells #[.int .i64 a1_0, .int .i64 a1_1] 36 (0, 0)) (uf0_ BK646) hb); replace HB := Aside0.mk (below_step (impl_BeforeOf.calls_q0) hb); (try clear hb); (try clear hk hi)))
  go_ret
  exact ⟨g4_, impl_BeforeOf.calls_q0⟩
end Go.Proofs.Ytigpmfoagkhaeaa.PU

namespace Go.Proofs.Ytigpmfoagkhaeaa.PU
open Go.RowKit Go.Proofs.YtigpmfoagkhaeaaW.PrintWords Go.Proofs.YtigpmfoagkhaeaaW.PrintLast Go.Proofs.YtigpmfoagkhaeaaW.PrintMore Go.Proofs.Ytigpmfoagkhaeaa.Qd
attribute [local go_sem] max2_int min2_int max_two min_two max_three min_three max_four min_four   -- for this text's walks alone
set_option linter.unusedVariables false
set_option linter.unusedSimpArgs false
attribute [local go_sem high] eqA36
mutual
def laws_FnGetsOf.j0 : Nat → List (S36) → Bool → Bool → List Int → List (List Int) → Option (Bool)
 | 0, _, _, _, _, _ => none
 | k + 1, x5, x6, x41, x660000, x660001 => if x41 = true then (some false) else (if x6 = true then ((impl_AllPaid.f k x660000 x660001).bind fun t670 => ((impl_GetsOf.f k x660000 x660001 t670).bind fun bt673 => ((spec_OwedOf.f k x660000 x660001).bind fun t677 => (laws_FnGetsOf.l0 k x5 bt673.1 bt673.2 t677 0 x660000 x660001)))) else (if (x5.length : Int) = 0 then ((laws_alive.f k).bind fun t669 => (some t669)) else (some false)))
def laws_FnGetsOf.l0 : Nat → List (S36) → List (S36) → Bool → List Int → Int → List Int → List (List Int) → Option (Bool)
 | 0, _, _, _, _, _, _, _ => none
 | k + 1, x5, x9, x10, x11, x12, x660000, x660001 => if x12 < (x5.length : Int) then (if x12 ≥ (x9.length : Int) then (some false) else (if 0 ≤ x12 then (if x12 < (x9.length : Int) then (if x12 < (x660000.length : Int) then (if x12 < (x11.length : Int) then (if (!(((rd_T36 x9 x12).f0) == (wrap64 ((rd x660000 x12) + (rd x11 x12)))) || (!(((rd_T36 x9 x12).f1) == 1))) = true then (some false) else ((impl_BeforeOf.f k ((rd_T36 x5 x12).f0) ((rd_T36 x5 x12).f1) (rd x660000 x12) 1).bind fun t685 => (if t685 < 0 then (some false) else (laws_FnGetsOf.l0 k x5 x9 x10 x11 (wrap64 (x12 + 1)) x660000 x660001)))) else (none)) else (none)) else (none)) else (none))) else (if x10 = true then (some ((x5.length : Int) == (x660000.length : Int))) else (some false))
end
def laws_FnGetsOf.f (k : Nat) (l0 : List Int) : Option (Bool) := if (l0.length : Int) > 1048576 then (some true) else ((spec_DrawGetsOf.f k l0).bind fun bt650 => ((impl_GetsOf.f k bt650.1 bt650.2.1 bt650.2.2).bind fun bt660 => ((spec_GetsOf.f k bt650.1 bt650.2.1 bt650.2.2).bind fun bt664 => ((laws_samePays.f k bt660.1 bt664.1).bind fun t668 => (if t668 = true then (laws_FnGetsOf.j0 k bt660.1 bt660.2 (bt660.2 != bt664.2) bt650.1 bt650.2.1) else (laws_FnGetsOf.j0 k bt660.1 bt660.2 true bt650.1 bt650.2.1))))))
theorem laws_FnGetsOf.mono_l : ∀ k, (∀ y0 y1 y2 y3 y4, LeO (laws_FnGetsOf.j0 k y0 y1 y2 y3 y4) (laws_FnGetsOf.j0 (k + 1) y0 y1 y2 y3 y4)) ∧ (∀ y0 y1 y2 y3 y4 y5 y6, LeO (laws_FnGetsOf.l0 k y0 y1 y2 y3 y4 y5 y6) (laws_FnGetsOf.l0 (k + 1) y0 y1 y2 y3 y4 y5 y6))
 | 0 => ⟨fun _ _ _ _ _ r h => by simp [laws_FnGetsOf.j0] at h, fun _ _ _ _ _ _ _ r h => by simp [laws_FnGetsOf.l0] at h⟩
 | k + 1 => by
  obtain ⟨ih0, ih1⟩ := laws_FnGetsOf.mono_l k
  refine ⟨?_, ?_⟩
  ·intro y0 y1 y2 y3 y4
   unfold laws_FnGetsOf.j0
   repeat' first
   | (with_reducible exact ih0 _ _ _ _ _)
   | (with_reducible exact ih1 _ _ _ _ _ _ _)
   | (with_reducible exact impl_AllPaid.mono _ _ _)
   | (with_reducible exact impl_BeforeOf.mono _ _ _ _ _)
   | (with_reducible exact impl_GetsOf.mono _ _ _ _)
   | (with_reducible exact laws_alive.mono _)
   | (with_reducible exact laws_samePays.mono _ _ _)
   | (with_reducible exact spec_DrawGetsOf.mono _ _)
   | (with_reducible exact spec_GetsOf.mono _ _ _ _)
   | (with_reducible exact spec_OwedOf.mono _ _ _)
   | (with_reducible exact LeO.refl _)
   | (with_reducible exact LeO.none _)
   | (with_reducible refine LeO.ite ?_ ?_)
   | (with_reducible refine LeO.bind ?_ (fun _ => ?_))
   | exact ih0 _ _ _ _ _
   | exact ih1 _ _ _ _ _ _ _
   | exact impl_AllPaid.mono _ _ _
   | exact impl_BeforeOf.mono _ _ _ _ _
   | exact impl_GetsOf.mono _ _ _ _
   | exact laws_alive.mono _
   | exact laws_samePays.mono _ _ _
   | exact spec_DrawGetsOf.mono _ _
   | exact spec_GetsOf.mono _ _ _ _
   | exact spec_OwedOf.mono _ _ _
   | exact LeO.none _
   | refine LeO.ite ?_ ?_
   | refine LeO.bind ?_ (fun _ => ?_)
  ·intro y0 y1 y2 y3 y4 y5 y6
   unfold laws_FnGetsOf.l0
   repeat' first
   | (with_reducible exact ih0 _ _ _ _ _)
   | (with_reducible exact ih1 _ _ _ _ _ _ _)
   | (with_reducible exact impl_AllPaid.mono _ _ _)
   | (with_reducible exact impl_BeforeOf.mono _ _ _ _ _)
   | (with_reducible exact impl_GetsOf.mono _ _ _ _)
   | (with_reducible exact laws_alive.mono _)
   | (with_reducible exact laws_samePays.mono _ _ _)
   | (with_reducible exact spec_DrawGetsOf.mono _ _)
   | (with_reducible exact spec_GetsOf.mono _ _ _ _)
   | (with_reducible exact spec_OwedOf.mono _ _ _)
   | (with_reducible exact LeO.refl _)
   | (with_reducible exact LeO.none _)
   | (with_reducible refine LeO.ite ?_ ?_)
   | (with_reducible refine LeO.bind ?_ (fun _ => ?_))
   | exact ih0 _ _ _ _ _
   | exact ih1 _ _ _ _ _ _ _
   | exact impl_AllPaid.mono _ _ _
   | exact impl_BeforeOf.mono _ _ _ _ _
   | exact impl_GetsOf.mono _ _ _ _
   | exact laws_alive.mono _
   | exact laws_samePays.mono _ _ _
   | exact spec_DrawGetsOf.mono _ _
   | exact spec_GetsOf.mono _ _ _ _
   | exact spec_OwedOf.mono _ _ _
   | exact LeO.none _
   | refine LeO.ite ?_ ?_
   | refine LeO.bind ?_ (fun _ => ?_)
theorem laws_FnGetsOf.mono : ∀ a0 k, LeO (laws_FnGetsOf.f k a0) (laws_FnGetsOf.f (k + 1) a0) := by
 intro a0 k
 obtain ⟨ih0, ih1⟩ := laws_FnGetsOf.mono_l k
 unfold laws_FnGetsOf.f
 repeat' first
   | (with_reducible exact ih0 _ _ _ _ _)
   | (with_reducible exact ih1 _ _ _ _ _ _ _)
   | (with_reducible exact impl_AllPaid.mono _ _ _)
   | (with_reducible exact impl_BeforeOf.mono _ _ _ _ _)
   | (with_reducible exact impl_GetsOf.mono _ _ _ _)
   | (with_reducible exact laws_alive.mono _)
   | (with_reducible exact laws_samePays.mono _ _ _)
   | (with_reducible exact spec_DrawGetsOf.mono _ _)
   | (with_reducible exact spec_GetsOf.mono _ _ _ _)
   | (with_reducible exact spec_OwedOf.mono _ _ _)
   | (with_reducible exact LeO.refl _)
   | (with_reducible exact LeO.none _)
   | (with_reducible refine LeO.ite ?_ ?_)
   | (with_reducible refine LeO.bind ?_ (fun _ => ?_))
   | exact ih0 _ _ _ _ _
   | exact ih1 _ _ _ _ _ _ _
   | exact impl_AllPaid.mono _ _ _
   | exact impl_BeforeOf.mono _ _ _ _ _
   | exact impl_GetsOf.mono _ _ _ _
   | exact laws_alive.mono _
   | exact laws_samePays.mono _ _ _
   | exact spec_DrawGetsOf.mono _ _
   | exact spec_GetsOf.mono _ _ _ _
   | exact spec_OwedOf.mono _ _ _
   | exact LeO.none _
   | refine LeO.ite ?_ ?_
   | refine LeO.bind ?_ (fun _ => ?_)
def laws_FnGetsOf.T10 : Bool × List (List Nat × List Nat) := (true, [([], []), ([], []), ([1], [1]), ([0, 2, 2], [0, 2]), ([3], [3]), ([4], [4]), ([4], [4]), ([5, 3, 0, 1, 2, 3, 4, 5], [5]), ([6, 7, 0, 1, 2, 3, 4, 5, 6, 7], [6])])
def laws_FnGetsOf.B10 : List Nat := [0, 0, 2, 7, 15, 31, 31, 63, 255]
theorem laws_FnGetsOf.tab10 : rtab .any (opsOf Try.f6 10) = laws_FnGetsOf.T10 := by kernel_rfl
theorem laws_FnGetsOf.bits10 : waitsOk laws_FnGetsOf.T10.2 laws_FnGetsOf.B10 = true := by kernel_rfl
def laws_FnGetsOf.T15 : Bool × List (List Nat × List Nat) := (true, [([], []), ([], []), ([1], [1]), ([0, 2], [0, 2]), ([3], [3]), ([4], [4]), ([4], [4]), ([5, 6, 4], [4, 5, 6]), ([7, 4], [4, 7]), ([4], [4]), ([9, 4], [4, 9]), ([4], [4]), ([10, 11, 4], [4, 10, 11]), ([12, 4], [4, 12]), ([4], [4]), ([4], [4]), ([14, 15, 4], [4, 14, 15]), ([16, 4], [4, 16]), ([13, 17, 4], [4, 13, 17]), ([18, 4], [4, 18]), ([8, 19, 4], [4, 8, 19]), ([4, 20], [4, 20]), ([21, 4], [21]), ([22], [22]), ([22], [22]), ([23, 24, 22], [22, 23, 24]), ([25, 22], [22, 25]), ([22], [22]), ([27, 22], [22, 27]), ([22], [22]), ([28, 29, 22], [22, 28, 29]), ([30, 22], [22, 30]), ([31, 22], [22, 31]), ([26, 32, 22, 22], [22, 26, 32]), ([33, 22], [22, 33]), ([22, 34], [22, 34])])
def laws_FnGetsOf.B15 : List Nat := [0, 0, 2, 7, 15, 31, 31, 127, 255, 31, 543, 31, 3615, 7711, 31, 31, 49183, 114719, 261663, 523807, 1048575, 2097151, 4194303, 8388607, 8388607, 33554431, 67108863, 8388607, 142606335, 8388607, 947912703, 2021654527, 4169138175, 8589934591, 17179869183, 34359738367]
theorem laws_FnGetsOf.tab15 : rtab .any (opsOf Try.f6 15) = laws_FnGetsOf.T15 := by kernel_rfl
theorem laws_FnGetsOf.bits15 : waitsOk laws_FnGetsOf.T15.2 laws_FnGetsOf.B15 = true := by kernel_rfl
theorem laws_FnGetsOf.calls_q0 {p : Prop} (h : p := by repeat (first | (with_reducible first | exact HB.out | apply below_alloc | apply pw_below_drewN | apply below_drew1 | refine below_set ?_ GE659.out) | exact HB.out)) : p := h
set_option maxHeartbeats 8000000 in
set_option maxRecDepth 100000 in
theorem laws_FnGetsOf.calls (k : Nat) (A0 : Option Addr) (c0 : Nat) (l0 : List Int) (r : Bool) (w : World) (hr0 : Kd.C (Kd.int .u8) w A0 l0.length l0) (hc0 : l0.length ≤ c0) (h : laws_FnGetsOf.f k l0 = some r) :
  Calls Try.prog 6 #[.slice A0 l0.length c0] w fun e w' => e = .returned (.bool r) ∧ Below w.heap.size w w' := by
 have hu26 := Try.underlying26
 have hu36 := Try.underlying36
 have HR0 := Aside0.mk hr0
 have HC0 := Aside0.mk hc0
 clear hr0 hc0
 have HB := Aside0.mk (Below.refl w.heap.size w)
 have H : (if (l0.length : Int) > 1048576 then (some true) else ((spec_DrawGetsOf.f k l0).bind fun bt650 => ((impl_GetsOf.f k bt650.1 bt650.2.1 bt650.2.2).bind fun bt660 => ((spec_GetsOf.f k bt650.1 bt650.2.1 bt650.2.2).bind fun bt664 => ((laws_samePays.f k bt660.1 bt664.1).bind fun t668 => (if t668 = true then (laws_FnGetsOf.j0 k bt660.1 bt660.2 (bt660.2 != bt664.2) bt650.1 bt650.2.1) else (laws_FnGetsOf.j0 k bt660.1 bt660.2 true bt650.1 bt650.2.1))))))) = some r := h
 clear h
 by_cases c2 : (l0.length : Int) > 1048576
 ·rw [if_pos c2] at H
  have c2b0 := decide_eq_true c2
  have c2b1 : decide (1048576 < l0.length) = true := decide_eq_true (by omega)
  clear c2
  obtain rfl := Option.some.inj H
  go_enter Try.func6, Try.ntmps6
  go_wp2
  go_ret
  exact ⟨g4_, laws_FnGetsOf.calls_q0⟩
 ·rw [if_neg c2] at H
  have c2b0 := decide_eq_false c2
  have c2b1 : decide (1048576 < l0.length) = false := decide_eq_false (by omega)
  clear c2
  replace H := Option.bind_eq_some_iff.mp H
  obtain ⟨⟨t650, t653, t656⟩, A30, H⟩ := H
  replace H : ((impl_GetsOf.f k t650 t653 t656).bind fun bt660 => ((spec_GetsOf.f k t650 t653 t656).bind fun bt664 => ((laws_samePays.f k bt660.1 bt664.1).bind fun t668 => (if t668 = true then (laws_FnGetsOf.j0 k bt660.1 bt660.2 (bt660.2 != bt664.2) t650 t653) else (laws_FnGetsOf.j0 k bt660.1 bt660.2 true t650 t653))))) = some r := H
  have A3 := Aside0.mk A30
  clear A30
  replace H := Option.bind_eq_some_iff.mp H
  obtain ⟨⟨t660, t663⟩, A40, H⟩ := H
  replace H : ((spec_GetsOf.f k t650 t653 t656).bind fun bt664 => ((laws_samePays.f k t660 bt664.1).bind fun t668 => (if t668 = true then (laws_FnGetsOf.j0 k t660 t663 (t663 != bt664.2) t650 t653) else (laws_FnGetsOf.j0 k t660 t663 true t650 t653)))) = some r := H
  have A4 := Aside0.mk A40
  clear A40
  replace H := Option.bind_eq_some_iff.mp H
  obtain ⟨⟨t664, t667⟩, A50, H⟩ := H
  replace H : ((laws_samePays.f k t660 t664).bind fun t668 => (if t668 = true then (laws_FnGetsOf.j0 k t660 t663 (t663 != t667) t650 t653) else (laws_FnGetsOf.j0 k t660 t663 true t650 t653))) = some r := H
  have A5 := Aside0.mk A50
  clear A50
  have HC6 := Aside0.mk H
  clear H
  go_enter Try.func6, Try.ntmps6
  go_upto_region 6 with (first | ((with_reducible refine gate_callee (f := 29) rfl ?_); refine goesL_ (some 18) rfl rfl Try.func29 k_ rfl #[.slice A0 l0.length c0] rfl (g2_) ?_; (with_reducible refine (spec_DrawGetsOf.calls k _ _ l0 t650 t653 t656 _ ?side1 ?side2 A3.out).mono ?_); (case side1 => repeat (first | exact HR0.out | (with_reducible refine Kd.C_alloc ?_ _) | (with_reducible refine Kd.C_drewN ?_ _) | (with_reducible refine Kd.C_drew ?_))); (case side2 => exact HC0.out); rintro e w7 ⟨v651, v654, v657, rfl, ho0, ho1, ho2, hb⟩; refine ⟨_, rfl, ?_⟩; have HO652 := Aside0.mk (Kd.R_lower (Kd.R_mono (ok' := fun k_ => True) ho0 (fun _ hk_ => trivial)) (below_size (laws_FnGetsOf.calls_q0))); have HO655 := Aside0.mk (Kd.V_lower (Kd.V_mono (ok' := fun k_ => some k_ ≠ (v651 : Value).ownBlock ∧ some k_ ≠ (v657 : Value).ownBlock) ho1 (fun k_ hk_ => ⟨hk_.2.1, hk_.2.2⟩)) (below_size (laws_FnGetsOf.calls_q0))); have HO658 := Aside0.mk (Kd.R_lower (Kd.R_mono (ok' := fun k_ => True) ho2 (fun _ hk_ => trivial)) (below_size (laws_FnGetsOf.calls_q0))); replace HB := Aside0.mk (below_step (laws_FnGetsOf.calls_q0) hb); (try clear hb); (try clear hk hi); (try clear ho0); (try clear ho1); (try clear ho2)) | ((with_reducible refine gate_dst (N := 3) rfl ?_); (try (refine gate_guard (by rfl) ?_; dsimp only)); refine bx_ (N := 3) #[.slice none 0 0, .slice none 0 0] 26 ?_; intro gb659 hg w8 hbox hb; replace HO652 := Aside0.mk (Kd.R_below (uf1_ HO652) hb); replace HO655 := Aside0.mk (Kd.V_below (Kd.V_elderB (uf5_ HO655) gb659 (Nat.le_of_eq hg.symm)) hb); replace HO658 := Aside0.mk (Kd.R_below (uf1_ HO658) hb); have BK659 := Aside0.mk (hbox); have GW659 := Aside0.mk ((by rw [hg]; exact (below_size (laws_FnGetsOf.calls_q0)) : w.heap.size ≤ gb659)); have GE659 := Aside0.mk ((by rw [hg]; exact (below_size (laws_FnGetsOf.calls_q0)) : w.heap.size ≤ gb659)); replace HB := Aside0.mk (below_step (laws_FnGetsOf.calls_q0) hb); clear hb hbox hg; obtain ⟨Ao9, co9, eo9⟩ := Kd.R_slice HO652.out; subst eo9; obtain ⟨hcz10_0, hcz10_1, hfz10_0, hfz10_1⟩ := blk2_ BK659; obtain ⟨Ao11, co11, eo11⟩ := Kd.V_slice HO655.out; subst eo11; obtain ⟨Ao12, co12, eo12⟩ := Kd.R_slice HO658.out; subst eo12) | ((with_reducible refine gate_callee (f := 18) rfl ?_); refine goesL_ (some 24) rfl rfl Try.func18 k_ rfl #[.agg #[.slice Ao9 t650.length co9, .slice Ao11 t653.length co11], .slice Ao12 t656.length co12] rfl (g2_) ?_; (with_reducible refine (impl_GetsOf.calls k _ _ t650 _ _ t653 _ _ t656 t660 t663 _ ?side1 ?side2 ?side3 ?side4 ?side5 ?side6 A4.out).mono ?_); (case side1 => refine (Kd.R_reads' (e := 3) (base := w.heap.size) (ok := fun k_ => True) (n := t650.length) (c := co9) ?_).2.2; exact (by (with_reducible repeat (first | apply Kd.R_alloc | apply Kd.R_drewN | apply Kd.R_drew)); exact (Kd.R_mono (Kd.R_far (p := ⟨gb659, 1, none⟩) (Kd.R_far (p := ⟨gb659, 0, none⟩) (Kd.R_types HO652.out BK659.out (by decide)) (fun _ hk => hk.2) (.slice Ao9 t650.length co9)) (fun _ hk => hk.2) (.slice Ao11 t653.length co11)) (fun _ h_ => h_.1)))); (case side2 => exact (Kd.R_reads' HO652.out).2.1); (case side3 => refine (Kd.V_reads' (e := 23) (base := w.heap.size) (ok := fun k_ => ((some k_ ≠ (.slice Ao9 t650.length co9 : Value).ownBlock ∧ some k_ ≠ (.slice Ao12 t656.length co12 : Value).ownBlock) ∧ k_ ≠ gb659)) (n := t653.length) (c := co11) ?_).2.2; exact (by (with_reducible repeat (first | apply Kd.V_alloc | apply Kd.V_drewN | apply Kd.V_drew)); exact (Kd.V_mono (Kd.V_far (p := ⟨gb659, 1, none⟩) (Kd.V_far (p := ⟨gb659, 0, none⟩) (Kd.V_mono HO655.out (fun k_ hk => (⟨hk, hk.2⟩ : _ ∧ k_ ≠ gb659))) (fun _ hk => hk.2) (.slice Ao9 t650.length co9)) (fun _ hk => hk.2) (.slice Ao11 t653.length co11)) (fun _ h_ => h_.1)))); (case side4 => exact (Kd.V_reads' HO655.out).2.1); (case side5 => refine (Kd.R_reads' (e := 36) (base := w.heap.size) (ok := fun k_ => True) (n := t656.length) (c := co12) ?_).2.2; exact (g172_)); (case side6 => exact (Kd.R_reads' HO658.out).2.1); rintro e w13 ⟨v661, rfl, ho0, hb⟩; refine ⟨_, rfl, ?_⟩; replace HO652 := Aside0.mk (Kd.R_below (by (with_reducible repeat (first | apply Kd.R_alloc | apply Kd.R_drewN | apply Kd.R_drew)); exact (Kd.R_mono (Kd.R_far (p := ⟨gb659, 1, none⟩) (Kd.R_far (p := ⟨gb659, 0, none⟩) (Kd.R_types HO652.out BK659.out (by decide)) (fun _ hk => hk.2) (.slice Ao9 t650.length co9)) (fun _ hk => hk.2) (.slice Ao11 t653.length co11)) (fun _ h_ => h_.1))) hb); replace HO655 := Aside0.mk (Kd.V_elder' (by (with_reducible repeat (first | apply Kd.V_alloc | apply Kd.V_drewN | apply Kd.V_drew)); exact (Kd.V_mono (Kd.V_far (p := ⟨gb659, 1, none⟩) (Kd.V_far (p := ⟨gb659, 0, none⟩) (Kd.V_mono HO655.out (fun k_ hk => (⟨hk, hk.2⟩ : _ ∧ k_ ≠ gb659))) (fun _ hk => hk.2) (.slice Ao9 t650.length co9)) (fun _ hk => hk.2) (.slice Ao11 t653.length co11)) (fun _ h_ => h_.1))) (Kd.R_base ho0) hb); have HO662 := Aside0.mk (Kd.R_lower (Kd.R_new' ho0 (Kd.R_lt (g172_))) (below_size (laws_FnGetsOf.calls_q0))); replace HO658 := Aside0.mk (Kd.R_elder' (g172_) (Kd.R_base ho0) hb); replace BK659 := Aside0.mk (blk_below (g := gb659) (o := .cells #[.slice Ao9 t650.length co9, .slice Ao11 t653.length co11] 26 (0, 0)) (by (with_reducible repeat (first | refine blk_drewN ?_ _ | refine blk_drew ?_ | refine blk_alloc ?_ _)); refine blk_put (cs := #[.slice Ao9 t650.length co9, .slice none 0 0]) ?_ 1 _ rfl; (with_reducible repeat (first | refine blk_drewN ?_ _ | refine blk_drew ?_ | refine blk_alloc ?_ _)); refine blk_put (cs := #[.slice none 0 0, .slice none 0 0]) ?_ 0 _ rfl; (with_reducible repeat (first | refine blk_drewN ?_ _ | refine blk_drew ?_ | refine blk_alloc ?_ _)); exact BK659.out) hb); replace HB := Aside0.mk (below_step (laws_FnGetsOf.calls_q0) hb); (try clear hb); (try clear hk hi); (try clear ho0); obtain ⟨hcz14_0, hcz14_1, hfz14_0, hfz14_1⟩ := blk2_ BK659) | ((with_reducible refine gate_callee (f := 30) rfl ?_); refine goesL_ (some 30) rfl rfl Try.func30 k_ rfl #[.agg #[.slice Ao9 t650.length co9, .slice Ao11 t653.length co11], .slice Ao12 t656.length co12] rfl (g2_) ?_; (with_reducible refine (spec_GetsOf.calls k _ _ t650 _ _ t653 _ _ t656 t664 t667 _ ?side1 ?side2 ?side3 ?side4 ?side5 ?side6 A5.out).mono ?_); (case side1 => repeat (first | exact (Kd.R_reads' HO652.out).2.2 | (with_reducible refine Kd.C_alloc ?_ _) | (with_reducible refine Kd.C_drewN ?_ _) | (with_reducible refine Kd.C_drew ?_))); (case side2 => exact (Kd.R_reads' HO652.out).2.1); (case side3 => repeat (first | exact (Kd.V_reads' HO655.out).2.2 | (with_reducible refine Kd.C_alloc ?_ _) | (with_reducible refine Kd.C_drewN ?_ _) | (with_reducible refine Kd.C_drew ?_))); (case side4 => exact (Kd.V_reads' HO655.out).2.1); (case side5 => repeat (first | exact (Kd.R_reads' HO658.out).2.2 | (with_reducible refine Kd.C_alloc ?_ _) | (with_reducible refine Kd.C_drewN ?_ _) | (with_reducible refine Kd.C_drew ?_))); (case side6 => exact (Kd.R_reads' HO658.out).2.1); rintro e w15 ⟨v665, rfl, ho0, hb⟩; refine ⟨_, rfl, ?_⟩; replace HO652 := Aside0.mk (Kd.R_below (uf1_ HO652) hb); replace HO655 := Aside0.mk (Kd.V_elder' (uf5_ HO655) (Kd.R_base ho0) hb); have HO666 := Aside0.mk (Kd.R_lower (Kd.R_new' (Kd.R_new' ho0 (Kd.R_lt (uf1_ HO658))) (Kd.R_lt (uf1_ HO662))) (below_size (laws_FnGetsOf.calls_q0))); replace HO658 := Aside0.mk (Kd.R_elder' (uf1_ HO658) (Kd.R_base ho0) hb); replace HO662 := Aside0.mk (Kd.R_elder' (uf1_ HO662) (Kd.R_base ho0) hb); replace BK659 := Aside0.mk (blk_below (g := gb659) (o := .cells #[.slice Ao9 t650.length co9, .slice Ao11 t653.length co11] 26 (0, 0)) (uf0_ BK659) hb); replace HB := Aside0.mk (below_step (laws_FnGetsOf.calls_q0) hb); (try clear hb); (try clear hk hi); (try clear ho0)))
  (try simp only [Act.put, List.setIfInBounds_toArray, List.set_cons_zero, List.set_cons_succ])
  go_cut [41] (fun v41 wc => ∃ (kq : Nat) (x41_5 : Bool), v41 = .bool x41_5 ∧ Aside0 (laws_FnGetsOf.j0 kq t660 t663 x41_5 t650 t653 = some r) ∧ Aside0 (kq ≤ k) ∧ Aside0 (Kd.R k36 36 wc w.heap.size (fun _ => True) v661 t660) ∧ Aside0 (Kd.R (Kd.int .i64) 3 wc w.heap.size (fun _ => True) (.slice Ao9 t650.length co9) t650) ∧ Aside0 (Kd.V (Kd.slice 3 (Kd.int .i64)) 23 wc w.heap.size (fun k_ => some k_ ≠ (v661 : Value).ownBlock ∧ some k_ ≠ ((.slice Ao9 t650.length co9) : Value).ownBlock ∧ k_ ≠ gb659) (.slice Ao11 t653.length co11) t653) ∧ Aside0 (wc.heap[gb659]? = some (.cells #[(.slice Ao9 t650.length co9), (.slice Ao11 t653.length co11)] 26 (0, 0))) ∧ Aside0 (Below w.heap.size w wc))
  case first =>
   have H := HC6.out
   clear HC6
   obtain ⟨t668, A16, H⟩ := bind_ H
   by_cases c17 : t668 = true
   ·subst c17
    replace H := ifp_ H
    have H' := Aside0.mk H
    clear H
    obtain ⟨Ao18, co18, eo18⟩ := Kd.R_slice HO662.out
    subst eo18
    obtain ⟨Ao19, co19, eo19⟩ := Kd.R_slice HO666.out
    subst eo19
    go_wp2_with (first | ((with_reducible refine gate_callee (f := 14) rfl ?_); refine goesL_ (some 35) rfl rfl Try.func14 k_ rfl #[.slice Ao18 t660.length co18, .slice Ao19 t664.length co19] rfl (g2_) ?_; (with_reducible refine (laws_samePays.calls k _ _ t660 _ _ t664 true _ ?side1 ?side2 ?side3 ?side4 A16.out).mono ?_); (case side1 => repeat (first | exact (Kd.R_reads' HO662.out).2.2 | (with_reducible refine Kd.C_alloc ?_ _) | (with_reducible refine Kd.C_drewN ?_ _) | (with_reducible refine Kd.C_drew ?_))); (case side2 => exact (Kd.R_reads' HO662.out).2.1); (case side3 => repeat (first | exact (Kd.R_reads' HO666.out).2.2 | (with_reducible refine Kd.C_alloc ?_ _) | (with_reducible refine Kd.C_drewN ?_ _) | (with_reducible refine Kd.C_drew ?_))); (case side4 => exact (Kd.R_reads' HO666.out).2.1); rintro e w' ⟨rfl, ⟨nd, rfl⟩⟩; refine ⟨_, rfl, ?_⟩))
    go_meet
    case rel => exact ⟨_, ((t663 != t667)), (g3_), H', ⟨g13_⟩, ⟨by (with_reducible repeat (first | apply Kd.R_alloc | apply Kd.R_drewN | apply Kd.R_drew)); exact Kd.R_mono HO662.out (fun _ hk => trivial)⟩, ⟨uf1_ HO652⟩, ⟨by (with_reducible repeat (first | apply Kd.V_alloc | apply Kd.V_drewN | apply Kd.V_drew)); exact Kd.V_mono HO655.out (fun _ hk => ⟨hk.1.2, ⟨hk.1.1.1.1, hk.1.1.2⟩⟩)⟩, ⟨uf0_ BK659⟩, ⟨laws_FnGetsOf.calls_q0⟩⟩
   ·replace c17 := Bool.eq_false_iff.mpr c17
    subst c17
    replace H := ifn_ H
    have H' := Aside0.mk H
    clear H
    obtain ⟨Ao20, co20, eo20⟩ := Kd.R_slice HO662.out
    subst eo20
    obtain ⟨Ao21, co21, eo21⟩ := Kd.R_slice HO666.out
    subst eo21
    go_wp2_with (first | ((with_reducible refine gate_callee (f := 14) rfl ?_); refine goesL_ (some 35) rfl rfl Try.func14 k_ rfl #[.slice Ao20 t660.length co20, .slice Ao21 t664.length co21] rfl (g2_) ?_; (with_reducible refine (laws_samePays.calls k _ _ t660 _ _ t664 false _ ?side1 ?side2 ?side3 ?side4 A16.out).mono ?_); (case side1 => repeat (first | exact (Kd.R_reads' HO662.out).2.2 | (with_reducible refine Kd.C_alloc ?_ _) | (with_reducible refine Kd.C_drewN ?_ _) | (with_reducible refine Kd.C_drew ?_))); (case side2 => exact (Kd.R_reads' HO662.out).2.1); (case side3 => repeat (first | exact (Kd.R_reads' HO666.out).2.2 | (with_reducible refine Kd.C_alloc ?_ _) | (with_reducible refine Kd.C_drewN ?_ _) | (with_reducible refine Kd.C_drew ?_))); (case side4 => exact (Kd.R_reads' HO666.out).2.1); rintro e w' ⟨rfl, ⟨nd, rfl⟩⟩; refine ⟨_, rfl, ?_⟩))
    go_meet
    case rel => exact ⟨_, (true), (g3_), H', ⟨g13_⟩, ⟨by (with_reducible repeat (first | apply Kd.R_alloc | apply Kd.R_drewN | apply Kd.R_drew)); exact Kd.R_mono HO662.out (fun _ hk => trivial)⟩, ⟨uf1_ HO652⟩, ⟨by (with_reducible repeat (first | apply Kd.V_alloc | apply Kd.V_drewN | apply Kd.V_drew)); exact Kd.V_mono HO655.out (fun _ hk => ⟨hk.1.2, ⟨hk.1.1.1.1, hk.1.1.2⟩⟩)⟩, ⟨uf0_ BK659⟩, ⟨laws_FnGetsOf.calls_q0⟩⟩
  case rest =>
   clear HC6
   try clear c1
   try clear c2
   try clear c2b0
   try clear c2b1
   try clear p2
   try clear c3
   try clear c6
   try clear c14
   try clear c17
   try clear c18
   try clear hcz10_0
   try clear hcz10_1
   try clear hcz14_0
   try clear hcz14_1
   try clear hfz10_0
   try clear hfz10_1
   try clear hfz14_0
   try clear hfz14_1
   obtain ⟨kq, x41_5, rfl, HA, HJ5, HO_5, HO_660000, HO_660001, BK659, HB⟩ := hcut
   cases kq with
   | zero => exact absurd HA.out (by simp [laws_FnGetsOf.j0])
   | succ kj5 =>
    have H := HA.out
    clear HA
    simp only [laws_FnGetsOf.j0] at H
    by_cases c22 : x41_5 = true
    ·subst c22
     replace H := ifp_ H
     obtain rfl := Option.some.inj H
     go_wp2
     go_ret
     exact ⟨g4_, laws_FnGetsOf.calls_q0⟩
    ·replace c22 := Bool.eq_false_iff.mpr c22
     subst c22
     replace H := ifn_ H
     by_cases c23 : t663 = true
     ·subst c23
      replace H := ifp_ H
      obtain ⟨t670, A24, H⟩ := bind_ H
      replace H := Option.bind_eq_some_iff.mp H
      obtain ⟨⟨t673, t676⟩, A250, H⟩ := H
      replace H : ((spec_OwedOf.f kj5 t650 t653).bind fun t677 => (laws_FnGetsOf.l0 kj5 t660 t673 t676 t677 0 t650 t653)) = some r := H
      have A25 := Aside0.mk A250
      clear A250
      obtain ⟨t677, A26, H⟩ := bind_ H
      have H' := Aside0.mk H
      clear H
      try go_wp2
      replace HO_5 := Aside0.mk (Kd.R_drew HO_5.out)
      replace HO_660000 := Aside0.mk (Kd.R_drew HO_660000.out)
      replace HO_660001 := Aside0.mk (Kd.V_drew HO_660001.out)
      replace BK659 := Aside0.mk (blk_drew BK659.out)
      replace HB := Aside0.mk (below_drew1 HB.out)
      refine start_ (n := 9) (S := fun w' => w'.cell? ⟨gb659, 0, none⟩ = some (.slice Ao9 t650.length co9) ∧ w'.cell? ⟨gb659, 1, none⟩ = some (.slice Ao11 t653.length co11)) (ds := []) (tl_ 9 0) (g0_) rfl (g0_) ⟨(blk_cell BK659.out 0).trans rfl, (blk_cell BK659.out 1).trans rfl⟩ (fun hHeld => ?_); refine with_tabW laws_FnGetsOf.tab10 laws_FnGetsOf.bits10 (fun HT_ HW_ => ?_)
      generalize wc.drew = w27 at HO_5 HO_660000 HO_660001 BK659 HB hHeld ⊢
      refine tk0_ 0 51 (tl_ 9 1) rfl rfl hHeld ?_
      refine tk0_ 1 52 (tl_ 9 3) rfl rfl hHeld ?_
      refine one_ (i := 2) (N := some 53) (tl_ 9 7) rfl rfl (one_of HT_.out (g0_)) (by decide) (fun K hK => ?_)
      refine goes_ Try.func28 (g0_) rfl #[.agg #[.slice Ao9 t650.length co9, .slice Ao11 t653.length co11]] (by rfl) rfl rfl (g2_) ?_
      with_reducible refine (impl_AllPaid.calls kj5 _ _ t650 _ _ t653 t670 _ ?side1 ?side2 ?side3 ?side4 A24.out).mono ?_
      (case side1 => repeat (first | exact (Kd.R_reads' HO_660000.out).2.2 | (with_reducible refine Kd.C_alloc ?_ _) | (with_reducible refine Kd.C_drewN ?_ _) | (with_reducible refine Kd.C_drew ?_)))
      (case side2 => exact (Kd.R_reads' HO_660000.out).2.1)
      (case side3 => repeat (first | exact (Kd.V_reads' HO_660001.out).2.2 | (with_reducible refine Kd.C_alloc ?_ _) | (with_reducible refine Kd.C_drewN ?_ _) | (with_reducible refine Kd.C_drew ?_)))
      (case side4 => exact (Kd.V_reads' HO_660001.out).2.1)
      rintro e w28 ⟨v671, rfl, ho0, hb⟩
      refine ⟨_, rfl, ?_⟩
      replace HO_660000 := Aside0.mk (Kd.R_below (uf1_ HO_660000) hb)
      replace HO_660001 := Aside0.mk (Kd.V_elder' (uf5_ HO_660001) (Kd.R_base ho0) hb)
      have HO672 := Aside0.mk (Kd.R_lower (Kd.R_new' ho0 (Kd.R_lt (uf1_ HO_5))) (below_size (laws_FnGetsOf.calls_q0)))
      replace HO_5 := Aside0.mk (Kd.R_elder' (uf1_ HO_5) (Kd.R_base ho0) hb)
      replace BK659 := Aside0.mk (blk_below (g := gb659) (o := .cells #[.slice Ao9 t650.length co9, .slice Ao11 t653.length co11] 26 (0, 0)) (uf0_ BK659) hb)
      replace HB := Aside0.mk (below_step (laws_FnGetsOf.calls_q0) hb)
      (try clear hb)
      (try clear hk hi)
      (try clear ho0)
      obtain ⟨Ao29, co29, eo29⟩ := Kd.R_slice HO672.out
      (first | subst eo29 | (injection eo29 with f1_ f2_ f3_; have f4_ := f1_.symm; have f5_ := f3_.symm; clear f1_ f2_ f3_; subst f4_; subst f5_))
      refine hK.out _ _ ⟨(blk_cell BK659.out 0).trans rfl, (blk_cell BK659.out 1).trans rfl⟩ (fun hHeld => ?_)
      clear hK K
      refine nm_ ?_
      refine one_ (i := 3) (N := some 54) (tl_ 9 15) rfl rfl (one_of HT_.out (g0_)) (by decide) (fun K hK => ?_)
      refine goes_ Try.func18 (g0_) rfl #[.agg #[.slice Ao9 t650.length co9, .slice Ao11 t653.length co11], .slice Ao29 t670.length co29] (by rfl) rfl rfl (g2_) ?_
      with_reducible refine (impl_GetsOf.calls kj5 _ _ t650 _ _ t653 _ _ t670 t673 t676 _ ?side1 ?side2 ?side3 ?side4 ?side5 ?side6 A25.out).mono ?_
      (case side1 => repeat (first | exact (Kd.R_reads' HO_660000.out).2.2 | (with_reducible refine Kd.C_alloc ?_ _) | (with_reducible refine Kd.C_drewN ?_ _) | (with_reducible refine Kd.C_drew ?_)))
      (case side2 => exact (Kd.R_reads' HO_660000.out).2.1)
      (case side3 => repeat (first | exact (Kd.V_reads' HO_660001.out).2.2 | (with_reducible refine Kd.C_alloc ?_ _) | (with_reducible refine Kd.C_drewN ?_ _) | (with_reducible refine Kd.C_drew ?_)))
      (case side4 => exact (Kd.V_reads' HO_660001.out).2.1)
      (case side5 => repeat (first | exact (Kd.R_reads' HO672.out).2.2 | (with_reducible refine Kd.C_alloc ?_ _) | (with_reducible refine Kd.C_drewN ?_ _) | (with_reducible refine Kd.C_drew ?_)))
      (case side6 => exact (Kd.R_reads' HO672.out).2.1)
      rintro e w30 ⟨v674, rfl, ho0, hb⟩
      refine ⟨_, rfl, ?_⟩
      replace HO_660000 := Aside0.mk (Kd.R_below (uf1_ HO_660000) hb)
      replace HO_660001 := Aside0.mk (Kd.V_elder' (uf5_ HO_660001) (Kd.R_base ho0) hb)
      have HO675 := Aside0.mk (Kd.R_lower (Kd.R_new' (Kd.R_new' ho0 (Kd.R_lt (uf1_ HO_5))) (Kd.R_lt (uf1_ HO672))) (below_size (laws_FnGetsOf.calls_q0)))
      replace HO_5 := Aside0.mk (Kd.R_elder' (uf1_ HO_5) (Kd.R_base ho0) hb)
      replace HO672 := Aside0.mk (Kd.R_elder' (uf1_ HO672) (Kd.R_base ho0) hb)
      replace BK659 := Aside0.mk (blk_below (g := gb659) (o := .cells #[.slice Ao9 t650.length co9, .slice Ao11 t653.length co11] 26 (0, 0)) (uf0_ BK659) hb)
      replace HB := Aside0.mk (below_step (laws_FnGetsOf.calls_q0) hb)
      (try clear hb)
      (try clear hk hi)
      (try clear ho0)
      refine hK.out _ _ ⟨(blk_cell BK659.out 0).trans rfl, (blk_cell BK659.out 1).trans rfl⟩ (fun hHeld => ?_)
      clear hK K
      refine nm_ ?_
      refine pw_ 4 50 (tl_ 9 31) rfl rfl ?_
      refine pw_ 5 55 (tl_ 9 63) rfl rfl ?_
      refine pw_ 6 56 (tl_ 9 127) rfl rfl ?_
      refine pw_ 7 9 (tl_ 9 255) rfl rfl ?_
      refine pw_ 8 10 (tl_ 9 511) rfl rfl ?_
      refine done_ (done_of HT_.out (g0_)) ?_
      obtain ⟨hcz31_0, hcz31_1, hfz31_0, hfz31_1⟩ := blk2_ BK659
      try go_wp2_with (first | ((with_reducible refine gate_callee (f := 31) rfl ?_); refine goesL_ (some 58) rfl rfl Try.func31 k_ rfl #[.agg #[.slice Ao9 t650.length co9, .slice Ao11 t653.length co11]] rfl (g2_) ?_; (with_reducible refine (spec_OwedOf.calls kj5 _ _ t650 _ _ t653 t677 _ ?side1 ?side2 ?side3 ?side4 A26.out).mono ?_); (case side1 => repeat (first | exact (Kd.R_reads' HO_660000.out).2.2 | (with_reducible refine Kd.C_alloc ?_ _) | (with_reducible refine Kd.C_drewN ?_ _) | (with_reducible refine Kd.C_drew ?_))); (case side2 => exact (Kd.R_reads' HO_660000.out).2.1); (case side3 => repeat (first | exact (Kd.V_reads' HO_660001.out).2.2 | (with_reducible refine Kd.C_alloc ?_ _) | (with_reducible refine Kd.C_drewN ?_ _) | (with_reducible refine Kd.C_drew ?_))); (case side4 => exact (Kd.V_reads' HO_660001.out).2.1); rintro e w32 ⟨v678, rfl, ho0, hb⟩; refine ⟨_, rfl, ?_⟩; replace HO_5 := Aside0.mk (Kd.R_below (uf1_ HO_5) hb); replace HO_660001 := Aside0.mk (Kd.V_elder' (uf5_ HO_660001) (Kd.R_base ho0) hb); replace HO672 := Aside0.mk (Kd.R_below (uf1_ HO672) hb); replace HO675 := Aside0.mk (Kd.R_below (uf1_ HO675) hb); have HO679 := Aside0.mk (Kd.R_lower (Kd.R_new' ho0 (Kd.R_lt (uf1_ HO_660000))) (below_size (laws_FnGetsOf.calls_q0))); replace HO_660000 := Aside0.mk (Kd.R_elder' (uf1_ HO_660000) (Kd.R_base ho0) hb); replace BK659 := Aside0.mk (blk_below (g := gb659) (o := .cells #[.slice Ao9 t650.length co9, .slice Ao11 t653.length co11] 26 (0, 0)) (uf0_ BK659) hb); replace HB := Aside0.mk (below_step (laws_FnGetsOf.calls_q0) hb); (try clear hb); (try clear hk hi); (try clear ho0)))
      go_loopg [12] kj5 (fun kq v12 w' => ∃ (x12_2 : Int), v12 = .int .i64 x12_2 ∧ Aside0 (laws_FnGetsOf.l0 kq t660 t673 t676 t677 x12_2 t650 t653 = some r) ∧ Aside0 (kq ≤ kj5) ∧ Aside0 (Kd.R k36 36 w' w.heap.size (fun k_ => some k_ ≠ (v674 : Value).ownBlock) v661 t660) ∧ Aside0 (Kd.R k36 36 w' w.heap.size (fun k_ => some k_ ≠ (v661 : Value).ownBlock) v674 t673) ∧ Aside0 (Kd.R (Kd.int .i64) 3 w' w.heap.size (fun k_ => some k_ ≠ ((.slice Ao9 t650.length co9) : Value).ownBlock) v678 t677) ∧ Aside0 (Kd.R (Kd.int .i64) 3 w' w.heap.size (fun k_ => some k_ ≠ (v678 : Value).ownBlock) (.slice Ao9 t650.length co9) t650) ∧ Aside0 (Kd.V (Kd.slice 3 (Kd.int .i64)) 23 w' w.heap.size (fun k_ => some k_ ≠ (v661 : Value).ownBlock ∧ some k_ ≠ (v674 : Value).ownBlock ∧ some k_ ≠ (v678 : Value).ownBlock ∧ some k_ ≠ ((.slice Ao9 t650.length co9) : Value).ownBlock ∧ k_ ≠ gb659) (.slice Ao11 t653.length co11) t653) ∧ Aside0 (w'.heap[gb659]? = some (.cells #[(.slice Ao9 t650.length co9), (.slice Ao11 t653.length co11)] 26 (0, 0))) ∧ Aside0 (Below w.heap.size w w'))
      case atStart => exact ⟨(0), (g3_), H', ⟨Nat.le_refl _⟩, ⟨by (with_reducible repeat (first | apply Kd.R_alloc | apply Kd.R_drewN | apply Kd.R_drew)); exact Kd.R_mono HO_5.out (fun _ hk => hk.2)⟩, ⟨by (with_reducible repeat (first | apply Kd.R_alloc | apply Kd.R_drewN | apply Kd.R_drew)); exact Kd.R_mono HO675.out (fun _ hk => hk.1.2)⟩, ⟨by (with_reducible repeat (first | apply Kd.R_alloc | apply Kd.R_drewN | apply Kd.R_drew)); exact Kd.R_mono HO679.out (fun _ hk => hk.2)⟩, ⟨by (with_reducible repeat (first | apply Kd.R_alloc | apply Kd.R_drewN | apply Kd.R_drew)); exact Kd.R_mono HO_660000.out (fun _ hk => hk.2)⟩, ⟨by (with_reducible repeat (first | apply Kd.V_alloc | apply Kd.V_drewN | apply Kd.V_drew)); exact Kd.V_mono HO_660001.out (fun _ hk => ⟨hk.1.1.1.1, ⟨hk.1.2, ⟨hk.2, ⟨hk.1.1.1.2.1, hk.1.1.1.2.2⟩⟩⟩⟩)⟩, ⟨uf0_ BK659⟩, ⟨laws_FnGetsOf.calls_q0⟩⟩
      case round =>
       clear H'
       try clear c1
       try clear c2
       try clear c2b0
       try clear c2b1
       try clear p2
       try clear c3
       try clear c6
       try clear c14
       try clear c17
       try clear c18
       try clear c22
       try clear c23
       try clear c28
       try clear c29
       try clear c30
       try clear c31
       try clear hcz10_0
       try clear hcz10_1
       try clear hcz14_0
       try clear hcz14_1
       try clear hcz31_0
       try clear hcz31_1
       try clear hfz10_0
       try clear hfz10_1
       try clear hfz14_0
       try clear hfz14_1
       try clear hfz31_0
       try clear hfz31_1
       try clear p2
       obtain ⟨x12_2, rfl, HA, HK2, HO_5, HO_9, HO_11, HO_660000, HO_660001, BK659, HB⟩ := hrel
       cases gk with
       | zero => exact absurd HA.out (by simp [laws_FnGetsOf.l0])
       | succ k2 =>
        have H := HA.out
        clear HA
        simp only [laws_FnGetsOf.l0] at H
        by_cases c33 : x12_2 < (t660.length : Int)
        ·rw [if_pos c33] at H
         have c33b0 := decide_eq_true c33
         clear c33
         by_cases c34 : x12_2 ≥ (t673.length : Int)
         ·rw [if_pos c34] at H
          have c34b0 := decide_eq_true c34
          clear c34
          obtain rfl := Option.some.inj H
          obtain ⟨Ao35, co35, eo35⟩ := Kd.R_slice HO_5.out
          subst eo35
          try go_wp2
          replace HO_5 := Aside0.mk (Kd.R_drew HO_5.out)
          replace HO_9 := Aside0.mk (Kd.R_drew HO_9.out)
          replace HO_11 := Aside0.mk (Kd.R_drew HO_11.out)
          replace HO_660000 := Aside0.mk (Kd.R_drew HO_660000.out)
          replace HO_660001 := Aside0.mk (Kd.V_drew HO_660001.out)
          replace BK659 := Aside0.mk (blk_drew BK659.out)
          replace HB := Aside0.mk (below_drew1 HB.out)
          obtain ⟨Ao37, co37, eo37⟩ := Kd.R_slice HO_9.out
          (first | subst eo37 | (injection eo37 with f1_ f2_ f3_; have f4_ := f1_.symm; have f5_ := f3_.symm; clear f1_ f2_ f3_; subst f4_; subst f5_))
          refine start_ (n := 36) (S := fun w' => True) (ds := []) (tl_ 36 0) (g0_) rfl (g0_) trivial (fun hHeld => ?_); refine with_tabW laws_FnGetsOf.tab15 laws_FnGetsOf.bits15 (fun HT_ HW_ => ?_)
          generalize wr.drew = w36 at HO_5 HO_9 HO_11 HO_660000 HO_660001 BK659 HB hHeld ⊢
          refine pw_ 0 65 (tl_ 36 1) rfl rfl ?_
          refine pw_ 1 66 (tl_ 36 3) rfl rfl ?_
          refine pw_ 2 67 (tl_ 36 7) rfl rfl ?_
          refine pw_ 3 68 (tl_ 36 15) rfl rfl ?_
          refine pw_ 4 69 (tl_ 36 31) rfl rfl ?_
          refine pure_ (i := 5) (N := some 70) (v := undef) (a' := ?_) (tl_ 36 63) rfl rfl (any_of HT_.out (g0_)) (fun _ _ _ h => h) (Or.inr ⟨by rfl, rfl⟩) ?_ ?_
          rotate_left
          ·simp only [Act.put, List.setIfInBounds_toArray, List.set_cons_zero, List.set_cons_succ, i64_w, i32_w]
           rfl
          refine pure_ (i := 6) (N := some 71) (v := undef) (a' := ?_) (tl_ 36 127) rfl rfl (any_of HT_.out (g0_)) (fun _ _ _ h => h) (Or.inr ⟨by rfl, rfl⟩) ?_ ?_
          rotate_left
          ·simp only [Act.put, List.setIfInBounds_toArray, List.set_cons_zero, List.set_cons_succ, i64_w, i32_w]
           rfl
          refine pure_ (i := 7) (N := some 72) (v := undef) (a' := ?_) (tl_ 36 255) rfl rfl (any_of HT_.out (g0_)) (fun _ _ _ h => h) (Or.inr ⟨by rfl, rfl⟩) ?_ ?_
          rotate_left
          ·simp only [Act.put, List.setIfInBounds_toArray, List.set_cons_zero, List.set_cons_succ, i64_w, i32_w]
           rfl
          refine pure_ (i := 8) (N := some 73) (v := undef) (a' := ?_) (tl_ 36 511) rfl rfl (any_of HT_.out (g0_)) (fun _ _ _ h => h) (Or.inr ⟨by rfl, rfl⟩) ?_ ?_
          rotate_left
          ·simp only [Act.put, List.setIfInBounds_toArray, List.set_cons_zero, List.set_cons_succ, i64_w, i32_w]
           rfl
          refine pure_ (i := 9) (N := some 74) (v := undef) (a' := ?_) (tl_ 36 1023) rfl rfl (any_of HT_.out (g0_)) (fun _ _ _ h => h) (Or.inr ⟨by rfl, rfl⟩) ?_ ?_
          rotate_left
          ·simp only [Act.put, List.setIfInBounds_toArray, List.set_cons_zero, List.set_cons_succ, i64_w, i32_w]
           rfl
          refine pure_ (i := 10) (N := some 75) (v := undef) (a' := ?_) (tl_ 36 2047) rfl rfl (any_of HT_.out (g0_)) (fun _ _ _ h => h) (Or.inr ⟨by rfl, rfl⟩) ?_ ?_
          rotate_left
          ·simp only [Act.put, List.setIfInBounds_toArray, List.set_cons_zero, List.set_cons_succ, i64_w, i32_w]
           rfl
          refine pure_ (i := 11) (N := some 76) (v := undef) (a' := ?_) (tl_ 36 4095) rfl rfl (any_of HT_.out (g0_)) (fun _ _ _ h => h) (Or.inr ⟨by rfl, rfl⟩) ?_ ?_
          rotate_left
          ·simp only [Act.put, List.setIfInBounds_toArray, List.set_cons_zero, List.set_cons_succ, i64_w, i32_w]
           rfl
          refine pure_ (i := 12) (N := some 77) (v := undef) (a' := ?_) (tl_ 36 8191) rfl rfl (any_of HT_.out (g0_)) (fun _ _ _ h => h) (Or.inr ⟨by rfl, rfl⟩) ?_ ?_
          rotate_left
          ·simp only [Act.put, List.setIfInBounds_toArray, List.set_cons_zero, List.set_cons_succ, i64_w, i32_w]
           rfl
          refine pure_ (i := 13) (N := some 78) (v := undef) (a' := ?_) (tl_ 36 16383) rfl rfl (any_of HT_.out (g0_)) (fun _ _ _ h => h) (Or.inr ⟨by rfl, rfl⟩) ?_ ?_
          rotate_left
          ·simp only [Act.put, List.setIfInBounds_toArray, List.set_cons_zero, List.set_cons_succ, i64_w, i32_w]
           rfl
          refine pure_ (i := 14) (N := some 79) (v := undef) (a' := ?_) (tl_ 36 32767) rfl rfl (any_of HT_.out (g0_)) (fun _ _ _ h => h) (Or.inr ⟨by rfl, rfl⟩) ?_ ?_
          rotate_left
          ·simp only [Act.put, List.setIfInBounds_toArray, List.set_cons_zero, List.set_cons_succ, i64_w, i32_w]
           rfl
          refine pure_ (i := 15) (N := some 80) (v := undef) (a' := ?_) (tl_ 36 65535) rfl rfl (any_of HT_.out (g0_)) (fun _ _ _ h => h) (Or.inr ⟨by rfl, rfl⟩) ?_ ?_
          rotate_left
          ·simp only [Act.put, List.setIfInBounds_toArray, List.set_cons_zero, List.set_cons_succ, i64_w, i32_w]
           rfl
          refine pure_ (i := 16) (N := some 81) (v := undef) (a' := ?_) (tl_ 36 131071) rfl rfl (any_of HT_.out (g0_)) (fun _ _ _ h => h) (Or.inr ⟨by rfl, rfl⟩) ?_ ?_
          rotate_left
          ·simp only [Act.put, List.setIfInBounds_toArray, List.set_cons_zero, List.set_cons_succ, i64_w, i32_w]
           rfl
          refine pure_ (i := 17) (N := some 82) (v := undef) (a' := ?_) (tl_ 36 262143) rfl rfl (any_of HT_.out (g0_)) (fun _ _ _ h => h) (Or.inr ⟨by rfl, rfl⟩) ?_ ?_
          rotate_left
          ·simp only [Act.put, List.setIfInBounds_toArray, List.set_cons_zero, List.set_cons_succ, i64_w, i32_w]
           rfl
          refine pure_ (i := 18) (N := some 83) (v := undef) (a' := ?_) (tl_ 36 524287) rfl rfl (any_of HT_.out (g0_)) (fun _ _ _ h => h) (Or.inr ⟨by rfl, rfl⟩) ?_ ?_
          rotate_left
          ·simp only [Act.put, List.setIfInBounds_toArray, List.set_cons_zero, List.set_cons_succ, i64_w, i32_w]
           rfl
          refine pure_ (i := 19) (N := some 84) (v := undef) (a' := ?_) (tl_ 36 1048575) rfl rfl (any_of HT_.out (g0_)) (fun _ _ _ h => h) (Or.inr ⟨by rfl, rfl⟩) ?_ ?_
          rotate_left
          ·simp only [Act.put, List.setIfInBounds_toArray, List.set_cons_zero, List.set_cons_succ, i64_w, i32_w]
           rfl
          refine pure_ (i := 20) (N := some 85) (v := undef) (a' := ?_) (tl_ 36 2097151) rfl rfl (any_of HT_.out (g0_)) (fun _ _ _ h => h) (Or.inr ⟨by rfl, rfl⟩) ?_ ?_
          rotate_left
          ·simp only [Act.put, List.setIfInBounds_toArray, List.set_cons_zero, List.set_cons_succ, i64_w, i32_w]
           rfl
          refine pw_ 21 86 (tl_ 36 4194303) rfl rfl ?_
          refine pw_ 22 87 (tl_ 36 8388607) rfl rfl ?_
          refine pure_ (i := 23) (N := some 88) (v := undef) (a' := ?_) (tl_ 36 16777215) rfl rfl (any_of HT_.out (g0_)) (fun _ _ _ h => h) (Or.inr ⟨by rfl, rfl⟩) ?_ ?_
          rotate_left
          ·simp only [Act.put, List.setIfInBounds_toArray, List.set_cons_zero, List.set_cons_succ, i64_w, i32_w]
           rfl
          refine pure_ (i := 24) (N := some 89) (v := undef) (a' := ?_) (tl_ 36 33554431) rfl rfl (any_of HT_.out (g0_)) (fun _ _ _ h => h) (Or.inr ⟨by rfl, rfl⟩) ?_ ?_
          rotate_left
          ·simp only [Act.put, List.setIfInBounds_toArray, List.set_cons_zero, List.set_cons_succ, i64_w, i32_w]
           rfl
          refine pure_ (i := 25) (N := some 90) (v := undef) (a' := ?_) (tl_ 36 67108863) rfl rfl (any_of HT_.out (g0_)) (fun _ _ _ h => h) (Or.inr ⟨by rfl, rfl⟩) ?_ ?_
          rotate_left
          ·simp only [Act.put, List.setIfInBounds_toArray, List.set_cons_zero, List.set_cons_succ, i64_w, i32_w]
           rfl
          refine pure_ (i := 26) (N := some 91) (v := undef) (a' := ?_) (tl_ 36 134217727) rfl rfl (any_of HT_.out (g0_)) (fun _ _ _ h => h) (Or.inr ⟨by rfl, rfl⟩) ?_ ?_
          rotate_left
          ·simp only [Act.put, List.setIfInBounds_toArray, List.set_cons_zero, List.set_cons_succ, i64_w, i32_w]
           rfl
          refine pure_ (i := 27) (N := some 92) (v := undef) (a' := ?_) (tl_ 36 268435455) rfl rfl (any_of HT_.out (g0_)) (fun _ _ _ h => h) (Or.inr ⟨by rfl, rfl⟩) ?_ ?_
          rotate_left
          ·simp only [Act.put, List.setIfInBounds_toArray, List.set_cons_zero, List.set_cons_succ, i64_w, i32_w]
           rfl
          refine pure_ (i := 28) (N := some 93) (v := undef) (a' := ?_) (tl_ 36 536870911) rfl rfl (any_of HT_.out (g0_)) (fun _ _ _ h => h) (Or.inr ⟨by rfl, rfl⟩) ?_ ?_
          rotate_left
          ·simp only [Act.put, List.setIfInBounds_toArray, List.set_cons_zero, List.set_cons_succ, i64_w, i32_w]
           rfl
          refine pure_ (i := 29) (N := some 94) (v := undef) (a' := ?_) (tl_ 36 1073741823) rfl rfl (any_of HT_.out (g0_)) (fun _ _ _ h => h) (Or.inr ⟨by rfl, rfl⟩) ?_ ?_
          rotate_left
          ·simp only [Act.put, List.setIfInBounds_toArray, List.set_cons_zero, List.set_cons_succ, i64_w, i32_w]
           rfl
          refine pure_ (i := 30) (N := some 95) (v := undef) (a' := ?_) (tl_ 36 2147483647) rfl rfl (any_of HT_.out (g0_)) (fun _ _ _ h => h) (Or.inr ⟨by rfl, rfl⟩) ?_ ?_
          rotate_left
          ·simp only [Act.put, List.setIfInBounds_toArray, List.set_cons_zero, List.set_cons_succ, i64_w, i32_w]
           rfl
          refine pure_ (i := 31) (N := some 96) (v := undef) (a' := ?_) (tl_ 36 4294967295) rfl rfl (any_of HT_.out (g0_)) (fun _ _ _ h => h) (Or.inr ⟨by rfl, rfl⟩) ?_ ?_
          rotate_left
          ·simp only [Act.put, List.setIfInBounds_toArray, List.set_cons_zero, List.set_cons_succ, i64_w, i32_w]
           rfl
          refine pure_ (i := 32) (N := some 97) (v := undef) (a' := ?_) (tl_ 36 8589934591) rfl rfl (any_of HT_.out (g0_)) (fun _ _ _ h => h) (Or.inr ⟨by rfl, rfl⟩) ?_ ?_
          rotate_left
          ·simp only [Act.put, List.setIfInBounds_toArray, List.set_cons_zero, List.set_cons_succ, i64_w, i32_w]
           rfl
          refine pure_ (i := 33) (N := some 98) (v := undef) (a' := ?_) (tl_ 36 17179869183) rfl rfl (any_of HT_.out (g0_)) (fun _ _ _ h => h) (Or.inr ⟨by rfl, rfl⟩) ?_ ?_
          rotate_left
          ·simp only [Act.put, List.setIfInBounds_toArray, List.set_cons_zero, List.set_cons_succ, i64_w, i32_w]
           rfl
          refine pure_ (i := 34) (N := some 99) (v := undef) (a' := ?_) (tl_ 36 34359738367) rfl rfl (any_of HT_.out (g0_)) (fun _ _ _ h => h) (Or.inr ⟨by rfl, rfl⟩) ?_ ?_
          rotate_left
          ·simp only [Act.put, List.setIfInBounds_toArray, List.set_cons_zero, List.set_cons_succ, i64_w, i32_w]
           rfl
          refine pw_ 35 100 (tl_ 36 68719476735) rfl rfl ?_
          refine done_ (done_of HT_.out (g0_)) ?_
          try go_wp2
          go_ret
          exact ⟨g4_, laws_FnGetsOf.calls_q0⟩
         ·rw [if_neg c34] at H
          have c34b0 := decide_eq_false c34
          clear c34
          by_cases c38 : 0 ≤ x12_2
          ·rw [if_pos c38] at H
           have c38b0 := decide_eq_true c38
           clear c38
           by_cases c39 : x12_2 < (t673.length : Int)
           ·rw [if_pos c39] at H
            have c39b0 := decide_eq_true c39
            clear c39
            by_cases c40 : x12_2 < (t650.length : Int)
            ·rw [if_pos c40] at H
             have c40b0 := decide_eq_true c40
             clear c40
             by_cases c41 : x12_2 < (t677.length : Int)
             ·rw [if_pos c41] at H
              have c41b0 := decide_eq_true c41
              clear c41
              by_cases c42 : (!(((rd_T36 t673 x12_2).f0) == (wrap64 ((rd t650 x12_2) + (rd t677 x12_2)))) || (!(((rd_T36 t673 x12_2).f1) == 1))) = true
              ·rw [if_pos c42] at H
               have c42b0 : (!(((rd_T36 t673 x12_2).f0) == (wrap64 ((rd t650 x12_2) + (rd t677 x12_2)))) || (!(((rd_T36 t673 x12_2).f1) == 1))) = true := c42
               clear c42
               obtain rfl := Option.some.inj H
               obtain ⟨Ao43, co43, eo43⟩ := Kd.R_slice HO_5.out
               subst eo43
               try go_wp2
               replace HO_5 := Aside0.mk (Kd.R_drew HO_5.out)
               replace HO_9 := Aside0.mk (Kd.R_drew HO_9.out)
               replace HO_11 := Aside0.mk (Kd.R_drew HO_11.out)
               replace HO_660000 := Aside0.mk (Kd.R_drew HO_660000.out)
               replace HO_660001 := Aside0.mk (Kd.V_drew HO_660001.out)
               replace BK659 := Aside0.mk (blk_drew BK659.out)
               replace HB := Aside0.mk (below_drew1 HB.out)
               obtain ⟨Ao45, co45, eo45⟩ := Kd.R_slice HO_9.out
               (first | subst eo45 | (injection eo45 with f1_ f2_ f3_; have f4_ := f1_.symm; have f5_ := f3_.symm; clear f1_ f2_ f3_; subst f4_; subst f5_))
               have p680 : 0 ≤ (x12_2 : Int) := of_decide_eq_true (g1_)
               have q680 : x12_2 < (t673.length : Int) := of_decide_eq_true (g1_)
               obtain ⟨ad680, e680, hx680_0, hx680_1⟩ := at_T36 (Kd.R_reads' HO_9.out).2.2 x12_2 p680 q680
               cases e680
               replace p680 := eq_true p680
               replace q680 := eq_true q680
               have p681 : 0 ≤ (x12_2 : Int) := of_decide_eq_true (g1_)
               have q681 : x12_2 < (t650.length : Int) := of_decide_eq_true (g1_)
               obtain ⟨ad681, e681, hx681_0⟩ := Kd.at_int (Kd.R_reads' HO_660000.out).2.2 x12_2 p681 q681
               cases e681
               replace p681 := eq_true p681
               replace q681 := eq_true q681
               obtain ⟨Ao46, co46, eo46⟩ := Kd.R_slice HO_11.out
               (first | subst eo46 | (injection eo46 with f1_ f2_ f3_; have f4_ := f1_.symm; have f5_ := f3_.symm; clear f1_ f2_ f3_; subst f4_; subst f5_))
               have p682 : 0 ≤ (x12_2 : Int) := of_decide_eq_true (g1_)
               have q682 : x12_2 < (t677.length : Int) := of_decide_eq_true (g1_)
               obtain ⟨ad682, e682, hx682_0⟩ := Kd.at_int (Kd.R_reads' HO_11.out).2.2 x12_2 p682 q682
               cases e682
               replace p682 := eq_true p682
               replace q682 := eq_true q682
               refine start_ (n := 36) (S := fun w' => w'.cell? ⟨gb659, 0, none⟩ = some (.slice (some ad681) t650.length co9) ∧ w'.cell? ⟨gb659, 1, none⟩ = some (.slice Ao11 t653.length co11) ∧ w'.cell? (ad680.add ((x12_2).toNat * 2)) = some (.int .i64 ((rd_T36 t673 x12_2).f0)) ∧ w'.cell? ⟨(ad680.add ((x12_2).toNat * 2)).block, (ad680.add ((x12_2).toNat * 2)).off + 1, none⟩ = some (.int .i64 ((rd_T36 t673 x12_2).f1)) ∧ w'.cell? (ad681.add (x12_2).toNat) = some (.int .i64 (rd t650 x12_2)) ∧ w'.cell? (ad682.add (x12_2).toNat) = some (.int .i64 (rd t677 x12_2))) (ds := []) (tl_ 36 0) (g0_) rfl (g0_) ⟨(blk_cell BK659.out 0).trans rfl, (blk_cell BK659.out 1).trans rfl, hx680_0, hx680_1, hx681_0, hx682_0⟩ (fun hHeld => ?_); refine with_tabW laws_FnGetsOf.tab15 laws_FnGetsOf.bits15 (fun HT_ HW_ => ?_)
               generalize wr.drew = w44 at HO_5 HO_9 HO_11 HO_660000 HO_660001 BK659 HB hx680_0 hx680_1 hx681_0 hx682_0 hHeld ⊢
               refine pw_ 0 65 (tl_ 36 1) rfl rfl ?_
               refine pw_ 1 66 (tl_ 36 3) rfl rfl ?_
               refine pw_ 2 67 (tl_ 36 7) rfl rfl ?_
               refine pw_ 3 68 (tl_ 36 15) rfl rfl ?_
               refine pw_ 4 69 (tl_ 36 31) rfl rfl ?_
               refine pw_ 5 70 (tl_ 36 63) rfl rfl ?_
               refine pw_ 6 71 (tl_ 36 127) rfl rfl ?_
               refine pw_ 7 72 (tl_ 36 255) rfl rfl ?_
               refine pw_ 9 74 (tl_ 36 767) rfl rfl ?_
               refine pw_ 11 76 (tl_ 36 2815) rfl rfl ?_
               refine pw_ 14 79 (tl_ 36 19199) rfl rfl ?_
               refine pw_ 15 80 (tl_ 36 51967) rfl rfl ?_
               refine pw_ 16 81 (tl_ 36 117503) rfl rfl ?_
               refine tk2_ 8 73 (tl_ 36 117759) rfl rfl hHeld ?_
               refine tk2_ 10 75 (tl_ 36 118783) rfl rfl hHeld ?_
               refine pw_ 12 77 (tl_ 36 122879) rfl rfl ?_
               refine tk2_ 13 78 (tl_ 36 131071) rfl rfl hHeld ?_
               refine tk2_ 17 82 (tl_ 36 262143) rfl rfl hHeld ?_
               refine pw_ 18 83 (tl_ 36 524287) rfl rfl ?_
               refine pw_ 19 84 (tl_ 36 1048575) rfl rfl ?_
               refine pw_ 20 85 (tl_ 36 2097151) rfl rfl ?_
               refine pw_ 21 86 (tl_ 36 4194303) rfl rfl ?_
               refine pw_ 22 87 (tl_ 36 8388607) rfl rfl ?_
               refine pure_ (i := 23) (N := some 88) (v := undef) (a' := ?_) (tl_ 36 16777215) rfl rfl (any_of HT_.out (g0_)) (fun _ _ _ h => h) (Or.inr ⟨by rfl, rfl⟩) ?_ ?_
               rotate_left
               ·simp only [Act.put, List.setIfInBounds_toArray, List.set_cons_zero, List.set_cons_succ, i64_w, i32_w]
                rfl
               refine pure_ (i := 24) (N := some 89) (v := undef) (a' := ?_) (tl_ 36 33554431) rfl rfl (any_of HT_.out (g0_)) (fun _ _ _ h => h) (Or.inr ⟨by rfl, rfl⟩) ?_ ?_
               rotate_left
               ·simp only [Act.put, List.setIfInBounds_toArray, List.set_cons_zero, List.set_cons_succ, i64_w, i32_w]
                rfl
               refine pure_ (i := 25) (N := some 90) (v := undef) (a' := ?_) (tl_ 36 67108863) rfl rfl (any_of HT_.out (g0_)) (fun _ _ _ h => h) (Or.inr ⟨by rfl, rfl⟩) ?_ ?_
               rotate_left
               ·simp only [Act.put, List.setIfInBounds_toArray, List.set_cons_zero, List.set_cons_succ, i64_w, i32_w]
                rfl
               refine pure_ (i := 26) (N := some 91) (v := undef) (a' := ?_) (tl_ 36 134217727) rfl rfl (any_of HT_.out (g0_)) (fun _ _ _ h => h) (Or.inr ⟨by rfl, rfl⟩) ?_ ?_
               rotate_left
               ·simp only [Act.put, List.setIfInBounds_toArray, List.set_cons_zero, List.set_cons_succ, i64_w, i32_w]
                rfl
               refine pure_ (i := 27) (N := some 92) (v := undef) (a' := ?_) (tl_ 36 268435455) rfl rfl (any_of HT_.out (g0_)) (fun _ _ _ h => h) (Or.inr ⟨by rfl, rfl⟩) ?_ ?_
               rotate_left
               ·simp only [Act.put, List.setIfInBounds_toArray, List.set_cons_zero, List.set_cons_succ, i64_w, i32_w]
                rfl
               refine pure_ (i := 28) (N := some 93) (v := undef) (a' := ?_) (tl_ 36 536870911) rfl rfl (any_of HT_.out (g0_)) (fun _ _ _ h => h) (Or.inr ⟨by rfl, rfl⟩) ?_ ?_
               rotate_left
               ·simp only [Act.put, List.setIfInBounds_toArray, List.set_cons_zero, List.set_cons_succ, i64_w, i32_w]
                rfl
               refine pure_ (i := 29) (N := some 94) (v := undef) (a' := ?_) (tl_ 36 1073741823) rfl rfl (any_of HT_.out (g0_)) (fun _ _ _ h => h) (Or.inr ⟨by rfl, rfl⟩) ?_ ?_
               rotate_left
               ·simp only [Act.put, List.setIfInBounds_toArray, List.set_cons_zero, List.set_cons_succ, i64_w, i32_w]
                rfl
               refine pure_ (i := 30) (N := some 95) (v := undef) (a' := ?_) (tl_ 36 2147483647) rfl rfl (any_of HT_.out (g0_)) (fun _ _ _ h => h) (Or.inr ⟨by rfl, rfl⟩) ?_ ?_
               rotate_left
               ·simp only [Act.put, List.setIfInBounds_toArray, List.set_cons_zero, List.set_cons_succ, i64_w, i32_w]
                rfl
               refine pure_ (i := 31) (N := some 96) (v := undef) (a' := ?_) (tl_ 36 4294967295) rfl rfl (any_of HT_.out (g0_)) (fun _ _ _ h => h) (Or.inr ⟨by rfl, rfl⟩) ?_ ?_
               rotate_left
               ·simp only [Act.put, List.setIfInBounds_toArray, List.set_cons_zero, List.set_cons_succ, i64_w, i32_w]
                rfl
               refine pure_ (i := 32) (N := some 97) (v := undef) (a' := ?_) (tl_ 36 8589934591) rfl rfl (any_of HT_.out (g0_)) (fun _ _ _ h => h) (Or.inr ⟨by rfl, rfl⟩) ?_ ?_
               rotate_left
               ·simp only [Act.put, List.setIfInBounds_toArray, List.set_cons_zero, List.set_cons_succ, i64_w, i32_w]
                rfl
               refine pure_ (i := 33) (N := some 98) (v := undef) (a' := ?_) (tl_ 36 17179869183) rfl rfl (any_of HT_.out (g0_)) (fun _ _ _ h => h) (Or.inr ⟨by rfl, rfl⟩) ?_ ?_
               rotate_left
               ·simp only [Act.put, List.setIfInBounds_toArray, List.set_cons_zero, List.set_cons_succ, i64_w, i32_w]
                rfl
               refine pure_ (i := 34) (N := some 99) (v := undef) (a' := ?_) (tl_ 36 34359738367) rfl rfl (any_of HT_.out (g0_)) (fun _ _ _ h => h) (Or.inr ⟨by rfl, rfl⟩) ?_ ?_
               rotate_left
               ·simp only [Act.put, List.setIfInBounds_toArray, List.set_cons_zero, List.set_cons_succ, i64_w, i32_w]
                rfl
               refine pw_ 35 100 (tl_ 36 68719476735) rfl rfl ?_
               refine done_ (done_of HT_.out (g0_)) ?_
               try go_wp2
               go_ret
               exact ⟨g4_, laws_FnGetsOf.calls_q0⟩
              ·rw [if_neg c42] at H
               have c42b0 : (!(((rd_T36 t673 x12_2).f0) == (wrap64 ((rd t650 x12_2) + (rd t677 x12_2)))) || (!(((rd_T36 t673 x12_2).f1) == 1))) = false := by simpa using c42
               clear c42
               obtain ⟨t685, A47, H⟩ := bind_ H
               by_cases c48 : t685 < 0
               ·rw [if_pos c48] at H
                have c48b0 := decide_eq_true c48
                clear c48
                obtain rfl := Option.some.inj H
                obtain ⟨Ao49, co49, eo49⟩ := Kd.R_slice HO_5.out
                subst eo49
                try go_wp2
                replace HO_5 := Aside0.mk (Kd.R_drew HO_5.out)
                replace HO_9 := Aside0.mk (Kd.R_drew HO_9.out)
                replace HO_11 := Aside0.mk (Kd.R_drew HO_11.out)
                replace HO_660000 := Aside0.mk (Kd.R_drew HO_660000.out)
                replace HO_660001 := Aside0.mk (Kd.V_drew HO_660001.out)
                replace BK659 := Aside0.mk (blk_drew BK659.out)
                replace HB := Aside0.mk (below_drew1 HB.out)
                obtain ⟨Ao51, co51, eo51⟩ := Kd.R_slice HO_9.out
                (first | subst eo51 | (injection eo51 with f1_ f2_ f3_; have f4_ := f1_.symm; have f5_ := f3_.symm; clear f1_ f2_ f3_; subst f4_; subst f5_))
                have p680 : 0 ≤ (x12_2 : Int) := of_decide_eq_true (g1_)
                have q680 : x12_2 < (t673.length : Int) := of_decide_eq_true (g1_)
                obtain ⟨ad680, e680, hx680_0, hx680_1⟩ := at_T36 (Kd.R_reads' HO_9.out).2.2 x12_2 p680 q680
                cases e680
                replace p680 := eq_true p680
                replace q680 := eq_true q680
                have p681 : 0 ≤ (x12_2 : Int) := of_decide_eq_true (g1_)
                have q681 : x12_2 < (t650.length : Int) := of_decide_eq_true (g1_)
                obtain ⟨ad681, e681, hx681_0⟩ := Kd.at_int (Kd.R_reads' HO_660000.out).2.2 x12_2 p681 q681
                cases e681
                replace p681 := eq_true p681
                replace q681 := eq_true q681
                obtain ⟨Ao52, co52, eo52⟩ := Kd.R_slice HO_11.out
                (first | subst eo52 | (injection eo52 with f1_ f2_ f3_; have f4_ := f1_.symm; have f5_ := f3_.symm; clear f1_ f2_ f3_; subst f4_; subst f5_))
                have p682 : 0 ≤ (x12_2 : Int) := of_decide_eq_true (g1_)
                have q682 : x12_2 < (t677.length : Int) := of_decide_eq_true (g1_)
                obtain ⟨ad682, e682, hx682_0⟩ := Kd.at_int (Kd.R_reads' HO_11.out).2.2 x12_2 p682 q682
                cases e682
                replace p682 := eq_true p682
                replace q682 := eq_true q682
                have p683 : 0 ≤ (x12_2 : Int) := of_decide_eq_true (g1_)
                have q683 : x12_2 < (t660.length : Int) := of_decide_eq_true (g1_)
                obtain ⟨ad683, e683, hx683_0, hx683_1⟩ := at_T36 (Kd.R_reads' HO_5.out).2.2 x12_2 p683 q683
                cases e683
                replace p683 := eq_true p683
                replace q683 := eq_true q683
                have p684 : 0 ≤ (x12_2 : Int) := of_decide_eq_true (g1_)
                have q684 : x12_2 < (t650.length : Int) := of_decide_eq_true (g1_)
                obtain ⟨ad684, e684, hx684_0⟩ := Kd.at_int (Kd.R_reads' HO_660000.out).2.2 x12_2 p684 q684
                obtain rfl : ad681 = ad684 := (by injection e684)
                replace p684 := eq_true p684
                replace q684 := eq_true q684
                refine start_ (n := 36) (S := fun w' => w'.cell? ⟨gb659, 0, none⟩ = some (.slice (some ad681) t650.length co9) ∧ w'.cell? ⟨gb659, 1, none⟩ = some (.slice Ao11 t653.length co11) ∧ w'.cell? (ad680.add ((x12_2).toNat * 2)) = some (.int .i64 ((rd_T36 t673 x12_2).f0)) ∧ w'.cell? ⟨(ad680.add ((x12_2).toNat * 2)).block, (ad680.add ((x12_2).toNat * 2)).off + 1, none⟩ = some (.int .i64 ((rd_T36 t673 x12_2).f1)) ∧ w'.cell? (ad681.add (x12_2).toNat) = some (.int .i64 (rd t650 x12_2)) ∧ w'.cell? (ad682.add (x12_2).toNat) = some (.int .i64 (rd t677 x12_2)) ∧ w'.cell? (ad683.add ((x12_2).toNat * 2)) = some (.int .i64 ((rd_T36 t660 x12_2).f0)) ∧ w'.cell? ⟨(ad683.add ((x12_2).toNat * 2)).block, (ad683.add ((x12_2).toNat * 2)).off + 1, none⟩ = some (.int .i64 ((rd_T36 t660 x12_2).f1)) ∧ w'.cell? (ad681.add (x12_2).toNat) = some (.int .i64 (rd t650 x12_2))) (ds := []) (tl_ 36 0) (g0_) rfl (g0_) ⟨(blk_cell BK659.out 0).trans rfl, (blk_cell BK659.out 1).trans rfl, hx680_0, hx680_1, hx681_0, hx682_0, hx683_0, hx683_1, hx684_0⟩ (fun hHeld => ?_); refine with_tabW laws_FnGetsOf.tab15 laws_FnGetsOf.bits15 (fun HT_ HW_ => ?_)
                generalize wr.drew = w50 at HO_5 HO_9 HO_11 HO_660000 HO_660001 BK659 HB hx680_0 hx680_1 hx681_0 hx682_0 hx683_0 hx683_1 hx684_0 hHeld ⊢
                refine pw_ 0 65 (tl_ 36 1) rfl rfl ?_
                refine pw_ 1 66 (tl_ 36 3) rfl rfl ?_
                refine pw_ 2 67 (tl_ 36 7) rfl rfl ?_
                refine pw_ 3 68 (tl_ 36 15) rfl rfl ?_
                refine pw_ 4 69 (tl_ 36 31) rfl rfl ?_
                refine pw_ 5 70 (tl_ 36 63) rfl rfl ?_
                refine pw_ 6 71 (tl_ 36 127) rfl rfl ?_
                refine pw_ 7 72 (tl_ 36 255) rfl rfl ?_
                refine pw_ 9 74 (tl_ 36 767) rfl rfl ?_
                refine pw_ 11 76 (tl_ 36 2815) rfl rfl ?_
                refine pw_ 14 79 (tl_ 36 19199) rfl rfl ?_
                refine pw_ 15 80 (tl_ 36 51967) rfl rfl ?_
                refine pw_ 16 81 (tl_ 36 117503) rfl rfl ?_
                refine tk6_ 8 73 (tl_ 36 117759) rfl rfl hHeld ?_
                refine tk6_ 10 75 (tl_ 36 118783) rfl rfl hHeld ?_
                refine pw_ 12 77 (tl_ 36 122879) rfl rfl ?_
                refine tk6_ 13 78 (tl_ 36 131071) rfl rfl hHeld ?_
                refine tk6_ 17 82 (tl_ 36 262143) rfl rfl hHeld ?_
                refine pw_ 18 83 (tl_ 36 524287) rfl rfl ?_
                refine pw_ 19 84 (tl_ 36 1048575) rfl rfl ?_
                refine pw_ 20 85 (tl_ 36 2097151) rfl rfl ?_
                refine pw_ 21 86 (tl_ 36 4194303) rfl rfl ?_
                refine pw_ 22 87 (tl_ 36 8388607) rfl rfl ?_
                refine pw_ 23 88 (tl_ 36 16777215) rfl rfl ?_
                refine pw_ 24 89 (tl_ 36 33554431) rfl rfl ?_
                refine pw_ 25 90 (tl_ 36 67108863) rfl rfl ?_
                refine pw_ 27 92 (tl_ 36 201326591) rfl rfl ?_
                refine pw_ 29 94 (tl_ 36 738197503) rfl rfl ?_
                refine tk6_ 26 91 (tl_ 36 805306367) rfl rfl hHeld ?_
                refine tk6_ 28 93 (tl_ 36 1073741823) rfl rfl hHeld ?_
                refine pw_ 30 95 (tl_ 36 2147483647) rfl rfl ?_
                refine tk6_ 31 96 (tl_ 36 4294967295) rfl rfl hHeld ?_
                refine pw_ 32 97 (tl_ 36 8589934591) rfl rfl ?_
                refine one_ (i := 33) (N := some 98) (tl_ 36 17179869183) rfl rfl (one_of HT_.out (g0_)) (by decide) (fun K hK => ?_)
                refine goes_ Try.func32 (g0_) rfl #[.agg #[.int .i64 ((rd_T36 t660 x12_2).f0), .int .i64 ((rd_T36 t660 x12_2).f1)], .agg #[.int .i64 (rd t650 x12_2), .int .i64 1]] (by rfl) rfl rfl (g2_) ?_
                with_reducible refine (impl_BeforeOf.calls k2 ((rd_T36 t660 x12_2).f0) ((rd_T36 t660 x12_2).f1) (rd t650 x12_2) 1 t685 _ A47.out).mono ?_
                rintro e w53 ⟨rfl, hb⟩
                have HS2_ := (hb.cell (World.block_lt_of_cell? _ _ (hHeld.2.2.1))).trans (hHeld.2.2.1)
                have HS3_ := (hb.cell (World.block_lt_of_cell? _ _ (hHeld.2.2.2.1))).trans (hHeld.2.2.2.1)
                have HS4_ := (hb.cell (World.block_lt_of_cell? _ _ (hHeld.2.2.2.2.1))).trans (hHeld.2.2.2.2.1)
                have HS5_ := (hb.cell (World.block_lt_of_cell? _ _ (hHeld.2.2.2.2.2.1))).trans (hHeld.2.2.2.2.2.1)
                have HS6_ := (hb.cell (World.block_lt_of_cell? _ _ (hHeld.2.2.2.2.2.2.1))).trans (hHeld.2.2.2.2.2.2.1)
                have HS7_ := (hb.cell (World.block_lt_of_cell? _ _ (hHeld.2.2.2.2.2.2.2.1))).trans (hHeld.2.2.2.2.2.2.2.1)
                have HS8_ := (hb.cell (World.block_lt_of_cell? _ _ (hHeld.2.2.2.2.2.2.2.2))).trans (hHeld.2.2.2.2.2.2.2.2)
                refine ⟨_, rfl, ?_⟩
                replace HO_5 := Aside0.mk (Kd.R_below (uf1_ HO_5) hb)
                replace HO_9 := Aside0.mk (Kd.R_below (uf1_ HO_9) hb)
                replace HO_11 := Aside0.mk (Kd.R_below (uf1_ HO_11) hb)
                replace HO_660000 := Aside0.mk (Kd.R_below (uf1_ HO_660000) hb)
                replace HO_660001 := Aside0.mk (Kd.V_below (uf5_ HO_660001) hb)
                replace BK659 := Aside0.mk (blk_below (g := gb659) (o := .cells #[.slice (some ad681) t650.length co9, .slice Ao11 t653.length co11] 26 (0, 0)) (uf0_ BK659) hb)
                replace HB := Aside0.mk (below_step (laws_FnGetsOf.calls_q0) hb)
                (try clear hb)
                (try clear hk hi)
                refine hK.out _ _ ⟨(blk_cell BK659.out 0).trans rfl, (blk_cell BK659.out 1).trans rfl, HS2_, HS3_, HS4_, HS5_, HS6_, HS7_, HS8_⟩ (fun hHeld => ?_)
                clear hK K
                refine nm_ ?_
                refine pw_ 34 99 (tl_ 36 34359738367) rfl rfl ?_
                refine pw_ 35 100 (tl_ 36 68719476735) rfl rfl ?_
                refine done_ (done_of HT_.out (g0_)) ?_
                try go_wp2
                go_ret
                exact ⟨g4_, laws_FnGetsOf.calls_q0⟩
               ·rw [if_neg c48] at H
                have c48b0 := decide_eq_false c48
                clear c48
                have H' := Aside0.mk H
                clear H
                obtain ⟨Ao54, co54, eo54⟩ := Kd.R_slice HO_5.out
                subst eo54
                try go_wp2
                replace HO_5 := Aside0.mk (Kd.R_drew HO_5.out)
                replace HO_9 := Aside0.mk (Kd.R_drew HO_9.out)
                replace HO_11 := Aside0.mk (Kd.R_drew HO_11.out)
                replace HO_660000 := Aside0.mk (Kd.R_drew HO_660000.out)
                replace HO_660001 := Aside0.mk (Kd.V_drew HO_660001.out)
                replace BK659 := Aside0.mk (blk_drew BK659.out)
                replace HB := Aside0.mk (below_drew1 HB.out)
                obtain ⟨Ao56, co56, eo56⟩ := Kd.R_slice HO_9.out
                (first | subst eo56 | (injection eo56 with f1_ f2_ f3_; have f4_ := f1_.symm; have f5_ := f3_.symm; clear f1_ f2_ f3_; subst f4_; subst f5_))
                have p680 : 0 ≤ (x12_2 : Int) := of_decide_eq_true (g1_)
                have q680 : x12_2 < (t673.length : Int) := of_decide_eq_true (g1_)
                obtain ⟨ad680, e680, hx680_0, hx680_1⟩ := at_T36 (Kd.R_reads' HO_9.out).2.2 x12_2 p680 q680
                cases e680
                replace p680 := eq_true p680
                replace q680 := eq_true q680
                have p681 : 0 ≤ (x12_2 : Int) := of_decide_eq_true (g1_)
                have q681 : x12_2 < (t650.length : Int) := of_decide_eq_true (g1_)
                obtain ⟨ad681, e681, hx681_0⟩ := Kd.at_int (Kd.R_reads' HO_660000.out).2.2 x12_2 p681 q681
                cases e681
                replace p681 := eq_true p681
                replace q681 := eq_true q681
                obtain ⟨Ao57, co57, eo57⟩ := Kd.R_slice HO_11.out
                (first | subst eo57 | (injection eo57 with f1_ f2_ f3_; have f4_ := f1_.symm; have f5_ := f3_.symm; clear f1_ f2_ f3_; subst f4_; subst f5_))
                have p682 : 0 ≤ (x12_2 : Int) := of_decide_eq_true (g1_)
                have q682 : x12_2 < (t677.length : Int) := of_decide_eq_true (g1_)
                obtain ⟨ad682, e682, hx682_0⟩ := Kd.at_int (Kd.R_reads' HO_11.out).2.2 x12_2 p682 q682
                cases e682
                replace p682 := eq_true p682
                replace q682 := eq_true q682
                have p683 : 0 ≤ (x12_2 : Int) := of_decide_eq_true (g1_)
                have q683 : x12_2 < (t660.length : Int) := of_decide_eq_true (g1_)
                obtain ⟨ad683, e683, hx683_0, hx683_1⟩ := at_T36 (Kd.R_reads' HO_5.out).2.2 x12_2 p683 q683
                cases e683
                replace p683 := eq_true p683
                replace q683 := eq_true q683
                have p684 : 0 ≤ (x12_2 : Int) := of_decide_eq_true (g1_)
                have q684 : x12_2 < (t650.length : Int) := of_decide_eq_true (g1_)
                obtain ⟨ad684, e684, hx684_0⟩ := Kd.at_int (Kd.R_reads' HO_660000.out).2.2 x12_2 p684 q684
                obtain rfl : ad681 = ad684 := (by injection e684)
                replace p684 := eq_true p684
                replace q684 := eq_true q684
                refine start_ (n := 36) (S := fun w' => w'.cell? ⟨gb659, 0, none⟩ = some (.slice (some ad681) t650.length co9) ∧ w'.cell? ⟨gb659, 1, none⟩ = some (.slice Ao11 t653.length co11) ∧ w'.cell? (ad680.add ((x12_2).toNat * 2)) = some (.int .i64 ((rd_T36 t673 x12_2).f0)) ∧ w'.cell? ⟨(ad680.add ((x12_2).toNat * 2)).block, (ad680.add ((x12_2).toNat * 2)).off + 1, none⟩ = some (.int .i64 ((rd_T36 t673 x12_2).f1)) ∧ w'.cell? (ad681.add (x12_2).toNat) = some (.int .i64 (rd t650 x12_2)) ∧ w'.cell? (ad682.add (x12_2).toNat) = some (.int .i64 (rd t677 x12_2)) ∧ w'.cell? (ad683.add ((x12_2).toNat * 2)) = some (.int .i64 ((rd_T36 t660 x12_2).f0)) ∧ w'.cell? ⟨(ad683.add ((x12_2).toNat * 2)).block, (ad683.add ((x12_2).toNat * 2)).off + 1, none⟩ = some (.int .i64 ((rd_T36 t660 x12_2).f1)) ∧ w'.cell? (ad681.add (x12_2).toNat) = some (.int .i64 (rd t650 x12_2))) (ds := []) (tl_ 36 0) (g0_) rfl (g0_) ⟨(blk_cell BK659.out 0).trans rfl, (blk_cell BK659.out 1).trans rfl, hx680_0, hx680_1, hx681_0, hx682_0, hx683_0, hx683_1, hx684_0⟩ (fun hHeld => ?_); refine with_tabW laws_FnGetsOf.tab15 laws_FnGetsOf.bits15 (fun HT_ HW_ => ?_)
                generalize wr.drew = w55 at HO_5 HO_9 HO_11 HO_660000 HO_660001 BK659 HB hx680_0 hx680_1 hx681_0 hx682_0 hx683_0 hx683_1 hx684_0 hHeld ⊢
                refine pw_ 0 65 (tl_ 36 1) rfl rfl ?_
                refine pw_ 1 66 (tl_ 36 3) rfl rfl ?_
                refine pw_ 2 67 (tl_ 36 7) rfl rfl ?_
                refine pw_ 3 68 (tl_ 36 15) rfl rfl ?_
                refine pw_ 4 69 (tl_ 36 31) rfl rfl ?_
                refine pw_ 5 70 (tl_ 36 63) rfl rfl ?_
                refine pw_ 6 71 (tl_ 36 127) rfl rfl ?_
                refine pw_ 7 72 (tl_ 36 255) rfl rfl ?_
                refine pw_ 9 74 (tl_ 36 767) rfl rfl ?_
                refine pw_ 11 76 (tl_ 36 2815) rfl rfl ?_
                refine pw_ 14 79 (tl_ 36 19199) rfl rfl ?_
                refine pw_ 15 80 (tl_ 36 51967) rfl rfl ?_
                refine pw_ 16 81 (tl_ 36 117503) rfl rfl ?_
                refine tk6_ 8 73 (tl_ 36 117759) rfl rfl hHeld ?_
                refine tk6_ 10 75 (tl_ 36 118783) rfl rfl hHeld ?_
                refine pw_ 12 77 (tl_ 36 122879) rfl rfl ?_
                refine tk6_ 13 78 (tl_ 36 131071) rfl rfl hHeld ?_
                refine tk6_ 17 82 (tl_ 36 262143) rfl rfl hHeld ?_
                refine pw_ 18 83 (tl_ 36 524287) rfl rfl ?_
                refine pw_ 19 84 (tl_ 36 1048575) rfl rfl ?_
                refine pw_ 20 85 (tl_ 36 2097151) rfl rfl ?_
                refine pw_ 21 86 (tl_ 36 4194303) rfl rfl ?_
                refine pw_ 22 87 (tl_ 36 8388607) rfl rfl ?_
                refine pw_ 23 88 (tl_ 36 16777215) rfl rfl ?_
                refine pw_ 24 89 (tl_ 36 33554431) rfl rfl ?_
                refine pw_ 25 90 (tl_ 36 67108863) rfl rfl ?_
                refine pw_ 27 92 (tl_ 36 201326591) rfl rfl ?_
                refine pw_ 29 94 (tl_ 36 738197503) rfl rfl ?_
                refine tk6_ 26 91 (tl_ 36 805306367) rfl rfl hHeld ?_
                refine tk6_ 28 93 (tl_ 36 1073741823) rfl rfl hHeld ?_
                refine pw_ 30 95 (tl_ 36 2147483647) rfl rfl ?_
                refine tk6_ 31 96 (tl_ 36 4294967295) rfl rfl hHeld ?_
                refine pw_ 32 97 (tl_ 36 8589934591) rfl rfl ?_
                refine one_ (i := 33) (N := some 98) (tl_ 36 17179869183) rfl rfl (one_of HT_.out (g0_)) (by decide) (fun K hK => ?_)
                refine goes_ Try.func32 (g0_) rfl #[.agg #[.int .i64 ((rd_T36 t660 x12_2).f0), .int .i64 ((rd_T36 t660 x12_2).f1)], .agg #[.int .i64 (rd t650 x12_2), .int .i64 1]] (by rfl) rfl rfl (g2_) ?_
                with_reducible refine (impl_BeforeOf.calls k2 ((rd_T36 t660 x12_2).f0) ((rd_T36 t660 x12_2).f1) (rd t650 x12_2) 1 t685 _ A47.out).mono ?_
                rintro e w58 ⟨rfl, hb⟩
                have HS2_ := (hb.cell (World.block_lt_of_cell? _ _ (hHeld.2.2.1))).trans (hHeld.2.2.1)
                have HS3_ := (hb.cell (World.block_lt_of_cell? _ _ (hHeld.2.2.2.1))).trans (hHeld.2.2.2.1)
                have HS4_ := (hb.cell (World.block_lt_of_cell? _ _ (hHeld.2.2.2.2.1))).trans (hHeld.2.2.2.2.1)
                have HS5_ := (hb.cell (World.block_lt_of_cell? _ _ (hHeld.2.2.2.2.2.1))).trans (hHeld.2.2.2.2.2.1)
                have HS6_ := (hb.cell (World.block_lt_of_cell? _ _ (hHeld.2.2.2.2.2.2.1))).trans (hHeld.2.2.2.2.2.2.1)
                have HS7_ := (hb.cell (World.block_lt_of_cell? _ _ (hHeld.2.2.2.2.2.2.2.1))).trans (hHeld.2.2.2.2.2.2.2.1)
                have HS8_ := (hb.cell (World.block_lt_of_cell? _ _ (hHeld.2.2.2.2.2.2.2.2))).trans (hHeld.2.2.2.2.2.2.2.2)
                refine ⟨_, rfl, ?_⟩
                replace HO_5 := Aside0.mk (Kd.R_below (uf1_ HO_5) hb)
                replace HO_9 := Aside0.mk (Kd.R_below (uf1_ HO_9) hb)
                replace HO_11 := Aside0.mk (Kd.R_below (uf1_ HO_11) hb)
                replace HO_660000 := Aside0.mk (Kd.R_below (uf1_ HO_660000) hb)
                replace HO_660001 := Aside0.mk (Kd.V_below (uf5_ HO_660001) hb)
                replace BK659 := Aside0.mk (blk_below (g := gb659) (o := .cells #[.slice (some ad681) t650.length co9, .slice Ao11 t653.length co11] 26 (0, 0)) (uf0_ BK659) hb)
                replace HB := Aside0.mk (below_step (laws_FnGetsOf.calls_q0) hb)
                (try clear hb)
                (try clear hk hi)
                refine hK.out _ _ ⟨(blk_cell BK659.out 0).trans rfl, (blk_cell BK659.out 1).trans rfl, HS2_, HS3_, HS4_, HS5_, HS6_, HS7_, HS8_⟩ (fun hHeld => ?_)
                clear hK K
                refine nm_ ?_
                refine pw_ 34 99 (tl_ 36 34359738367) rfl rfl ?_
                refine pw_ 35 100 (tl_ 36 68719476735) rfl rfl ?_
                refine done_ (done_of HT_.out (g0_)) ?_
                try go_wp2
                go_roundg k2
                case measure => have := HJ5.out; have := HK2.out; omega
                case rel => exact ⟨(wrap64 (x12_2 + 1)), (g3_), H', ⟨by have := HJ5.out; have := HK2.out; omega⟩, ⟨uf1_ HO_5⟩, ⟨uf1_ HO_9⟩, ⟨uf1_ HO_11⟩, ⟨uf1_ HO_660000⟩, ⟨uf5_ HO_660001⟩, ⟨uf0_ BK659⟩, ⟨laws_FnGetsOf.calls_q0⟩⟩
             ·rw [if_neg c41] at H
              exact absurd H (by simp)
            ·rw [if_neg c40] at H
             exact absurd H (by simp)
           ·rw [if_neg c39] at H
            exact absurd H (by simp)
          ·rw [if_neg c38] at H
           exact absurd H (by simp)
        ·rw [if_neg c33] at H
         have c33b0 := decide_eq_false c33
         clear c33
         by_cases c59 : t676 = true
         ·subst c59
          replace H := ifp_ H
          obtain rfl := Option.some.inj H
          obtain ⟨Ao60, co60, eo60⟩ := Kd.R_slice HO_5.out
          subst eo60
          obtain ⟨hcz61_0, hcz61_1, hfz61_0, hfz61_1⟩ := blk2_ BK659
          go_wp2
          go_ret
          exact ⟨g4_, laws_FnGetsOf.calls_q0⟩
         ·replace c59 := Bool.eq_false_iff.mpr c59
          subst c59
          replace H := ifn_ H
          obtain rfl := Option.some.inj H
          obtain ⟨Ao62, co62, eo62⟩ := Kd.R_slice HO_5.out
          subst eo62
          go_wp2
          go_ret
          exact ⟨g4_, laws_FnGetsOf.calls_q0⟩
     ·replace c23 := Bool.eq_false_iff.mpr c23
      subst c23
      replace H := ifn_ H
      by_cases c63 : (t660.length : Int) = 0
      ·rw [if_pos c63] at H
       have c63b0 : ((t660.length : Int) == 0) = true := beq_iff_eq.mpr c63
       have c63b1 : ((t660.length : Int) != 0) = false := bne_eq_false_iff_eq.mpr c63
       clear c63
       obtain ⟨t669, A64, H⟩ := bind_ H
       obtain rfl := Option.some.inj H
       obtain ⟨Ao65, co65, eo65⟩ := Kd.R_slice HO_5.out
       subst eo65
       go_wp2_with (first | (go_at_call 17; (with_reducible refine (laws_alive.calls kj5  t669 _ A64.out).mono ?_); rintro e w66 ⟨rfl, hb⟩; replace HO_5 := Aside0.mk (Kd.R_below (uf1_ HO_5) hb); replace HO_660000 := Aside0.mk (Kd.R_below (uf1_ HO_660000) hb); replace HO_660001 := Aside0.mk (Kd.V_below (uf5_ HO_660001) hb); replace BK659 := Aside0.mk (blk_below (g := gb659) (o := .cells #[.slice Ao9 t650.length co9, .slice Ao11 t653.length co11] 26 (0, 0)) (uf0_ BK659) hb); replace HB := Aside0.mk (below_step (laws_FnGetsOf.calls_q0) hb); (try clear hb); (try clear hk hi)))
       go_ret
       exact ⟨g4_, laws_FnGetsOf.calls_q0⟩
      ·rw [if_neg c63] at H
       have c63b0 : ((t660.length : Int) == 0) = false := beq_eq_false_iff_ne.mpr c63
       have c63b1 : ((t660.length : Int) != 0) = true := bne_iff_ne.mpr c63
       have c63b2 : ¬ (t660 = []) := fun h_ => c63 (g46_)
       obtain rfl := Option.some.inj H
       obtain ⟨Ao67, co67, eo67⟩ := Kd.R_slice HO_5.out
       subst eo67
       go_wp2
       go_ret
       exact ⟨g4_, laws_FnGetsOf.calls_q0⟩
def laws_FnGetsOf.Pure : Prop := ∀ (l0 : List Int), l0.length ≤ maxLen → l0.length * 1 ≤ 140737488351232 → (∀ x ∈ l0, (Lit.int .u8 x).wf = true) → ∃ k, laws_FnGetsOf.f k l0 = some true
theorem laws_FnGetsOf.walk (P : laws_FnGetsOf.Pure) (a0 : Option Addr) (len0 cap0 : Nat) (z0 : List Int) (w : World) (w0 : (a0 = none ∧ len0 = 0 ∧ cap0 = 0 ∧ z0 = []) ∨ ∃ x, a0 = some x ∧ len0 ≤ cap0 ∧ cap0 ≤ maxLen ∧ z0.length = cap0 ∧ (∀ i, i < z0.length → w.cell? (x.add i) = some (.int .u8 (z0.getD i 0))) ∧ ∀ n ∈ z0, (Lit.int .u8 n).wf = true) (y0 : len0 * 1 ≤ 140737488351232) :
  Calls Try.prog 6 #[.slice a0 len0 cap0] w fun e w' => e = .returned (.bool true) ∧ Below w.heap.size w w' := by
 obtain ⟨l0, rfl, hr0, hm0, hw0, hc0⟩ := ReadsInt.ofRowC w0
 obtain ⟨k, h⟩ := P l0 hm0 y0 hw0
 refine (laws_FnGetsOf.calls k _ _ l0 true w (Kd.C_of_reads (d := (0 : Int)) (h1 := fun _ => rfl) hr0) hc0 h).mono ?_
 rintro e w' ⟨rfl, hd⟩
 exact ⟨rfl, hd⟩
end Go.Proofs.Ytigpmfoagkhaeaa.PU
