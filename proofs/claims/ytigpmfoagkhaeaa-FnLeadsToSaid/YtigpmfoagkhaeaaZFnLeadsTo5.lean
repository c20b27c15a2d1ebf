/- FnLeadsTo: for every input the law holds. No condition. -/
import Derived.Test.YtigpmfoagkhaeaaZFnLeadsTo1
import Derived.Test.YtigpmfoagkhaeaaZFnLeadsTo2
import Derived.Test.YtigpmfoagkhaeaaZFnLeadsTo3
import Derived.Test.YtigpmfoagkhaeaaZFnLeadsTo4
namespace Go.Proofs.Ytigpmfoagkhaeaa.PU
open Go.RowKit Go.Proofs.YtigpmfoagkhaeaaW.PrintWords Go.Proofs.YtigpmfoagkhaeaaW.PrintLast Go.Proofs.YtigpmfoagkhaeaaW.PrintMore Go.Proofs.Ytigpmfoagkhaeaa.Qd
attribute [local go_sem] max2_int min2_int max_two min_two max_three min_three max_four min_four
set_option linter.unusedVariables false
set_option linter.unusedSimpArgs false
mutual
def spec_GetsOf.l0 : Nat → List (S36) → List (S36) → List Int → Int → List Int → List (List Int) → Option ((List (S36)) × Bool)
 | 0, _, _, _, _, _, _ => none
 | k + 1, x1, x6, x7, x8, x600000, x600001 => if x8 < (x1.length : Int) then (if 0 ≤ x8 then (if x8 < (x600000.length : Int) then (spec_GetsOf.l1 k x1 x6 x7 x8 0 x600000 x600001 (rd x600000 x8) 1) else (none)) else (none)) else (some (x6, true))
def spec_GetsOf.l1 : Nat → List (S36) → List (S36) → List Int → Int → Int → List Int → List (List Int) → Int → Int → Option ((List (S36)) × Bool)
 | 0, _, _, _, _, _, _, _, _, _ => none
 | k + 1, x1, x6, x7, x8, x10, x600000, x600001, x609000, x609001 => if x10 < (x1.length : Int) then (if 0 ≤ x10 then (if x10 < (x7.length : Int) then (if (rd x7 x10) = 0 then (spec_GetsOf.l1 k x1 x6 x7 x8 (wrap64 (x10 + 1)) x600000 x600001 x609000 x609001) else (if x10 < (x600001.length : Int) then (if 0 ≤ x8 then (if x8 < ((rd_L2 x600001 x10).length : Int) then ((spec_FracOf.f k (rd (rd_L2 x600001 x10) x8) (rd x7 x10)).bind fun bt616 => ((spec_TimesOf.f k ((rd_T36 x1 x10).f0) ((rd_T36 x1 x10).f1) bt616.1 bt616.2.1).bind fun bt621 => ((spec_PlusOf.f k x609000 x609001 bt621.1 bt621.2.1).bind fun bt625 => (if bt621.2.2 = true then (if bt625.2.2 = true then (spec_GetsOf.l1 k x1 x6 x7 x8 (wrap64 (x10 + 1)) x600000 x600001 bt625.1 bt625.2.1) else (some ((([] : List (S36))), false))) else (some ((([] : List (S36))), false)))))) else (none)) else (none)) else (none))) else (none)) else (none)) else (if x6.length < 8796093022208 then (spec_GetsOf.l0 k x1 (x6 ++ [(⟨x609000, x609001⟩ : S36)]) x7 (wrap64 (x8 + 1)) x600000 x600001) else (none))
end
def spec_GetsOf.f (k : Nat) (l0_0 : List Int) (l0_1 : List (List Int)) (l1 : List (S36)) : Option ((List (S36)) × Bool) := (some (([] : List (S36)) : List (S36))).bind fun y600 => ((spec_PaysOk.f k l0_0 l0_1 l1).bind fun t603 => (if t603 = true then ((spec_OwesOf.f k l0_0 l0_1).bind fun t604 => (spec_GetsOf.l0 k l1 y600 t604 0 l0_0 l0_1)) else (some (y600, false))))
theorem spec_GetsOf.mq {p : Prop} (h : p := by
 repeat' first
 | (with_reducible exact ih0 _ _ _ _ _ _)
 | (with_reducible exact ih1 _ _ _ _ _ _ _ _ _)
 | (with_reducible exact spec_FracOf.mono _ _ _)
 | (with_reducible exact spec_OwesOf.mono _ _ _)
 | (with_reducible exact spec_PaysOk.mono _ _ _ _)
 | (with_reducible exact spec_PlusOf.mono _ _ _ _ _)
 | (with_reducible exact spec_TimesOf.mono _ _ _ _ _)
 | (with_reducible exact LeO.refl _)
 | (with_reducible exact LeO.none _)
 | (with_reducible refine LeO.ite ?_ ?_)
 | (with_reducible refine LeO.bind ?_ (fun _ => ?_))
 | exact ih0 _ _ _ _ _ _
 | exact ih1 _ _ _ _ _ _ _ _ _
 | exact spec_FracOf.mono _ _ _
 | exact spec_OwesOf.mono _ _ _
 | exact spec_PaysOk.mono _ _ _ _
 | exact spec_PlusOf.mono _ _ _ _ _
 | exact spec_TimesOf.mono _ _ _ _ _
 | exact LeO.none _
 | refine LeO.ite ?_ ?_
 | refine LeO.bind ?_ (fun _ => ?_)) : p := h
theorem spec_GetsOf.mono_l : ∀ k, (∀ y0 y1 y2 y3 y4 y5, LeO (spec_GetsOf.l0 k y0 y1 y2 y3 y4 y5) (spec_GetsOf.l0 (k + 1) y0 y1 y2 y3 y4 y5)) ∧ (∀ y0 y1 y2 y3 y4 y5 y6 y7 y8, LeO (spec_GetsOf.l1 k y0 y1 y2 y3 y4 y5 y6 y7 y8) (spec_GetsOf.l1 (k + 1) y0 y1 y2 y3 y4 y5 y6 y7 y8))
 | 0 => ⟨fun _ _ _ _ _ _ r h => by simp [spec_GetsOf.l0] at h, fun _ _ _ _ _ _ _ _ _ r h => by simp [spec_GetsOf.l1] at h⟩
 | k + 1 => by
  obtain ⟨ih0, ih1⟩ := spec_GetsOf.mono_l k
  refine ⟨?_, ?_⟩
  ·intro y0 y1 y2 y3 y4 y5
   unfold spec_GetsOf.l0
   exact spec_GetsOf.mq
  ·intro y0 y1 y2 y3 y4 y5 y6 y7 y8
   unfold spec_GetsOf.l1
   exact spec_GetsOf.mq
theorem spec_GetsOf.mono : ∀ a0 a1 a2 k, LeO (spec_GetsOf.f k a0 a1 a2) (spec_GetsOf.f (k + 1) a0 a1 a2) := by
 intro a0 a1 a2 k
 obtain ⟨ih0, ih1⟩ := spec_GetsOf.mono_l k
 unfold spec_GetsOf.f
 exact spec_GetsOf.mq
def spec_GetsOf.T13 : Bool × List (List Nat × List Nat) := (true, [([], []), ([0], [0]), ([], []), ([1, 2], [1, 2]), ([3], [3]), ([], []), ([4, 5], [4, 5]), ([6], [6]), ([], []), ([], []), ([8, 9], [8, 9]), ([10], [10]), ([7, 11], [7, 11]), ([12], [12]), ([13], [13]), ([13], [13]), ([], []), ([16, 14, 12, 0, 1, 2, 3, 4, 5, 6, 7, 8, 9, 10, 11, 12, 13, 14, 16], [14, 16]), ([15, 17, 0, 1, 2, 3, 4, 5, 6, 7, 8, 9, 10, 11, 12, 13, 14, 15, 16, 17], [15])])
def spec_GetsOf.B13 : List Nat := [0, 1, 0, 7, 15, 0, 63, 127, 0, 0, 768, 1792, 4095, 8191, 16383, 16383, 0, 98303, 262143]
theorem spec_GetsOf.tab13 : rtab .any (opsOf Try.f30 13) = spec_GetsOf.T13 := by kernel_rfl
theorem spec_GetsOf.bits13 : waitsOk spec_GetsOf.T13.2 spec_GetsOf.B13 = true := by kernel_rfl
def spec_GetsOf.T14 : Bool × List (List Nat × List Nat) := (true, [([], []), ([], []), ([0, 1], [0, 1]), ([2], [2]), ([], []), ([3, 4], [3, 4]), ([5], [5]), ([6], [6]), ([6], [6]), ([], []), ([9, 7, 5, 0, 1, 2, 3, 4, 5, 6, 7, 9], [7, 9]), ([8, 10, 0, 1, 2, 3, 4, 5, 6, 7, 8, 9, 10], [8])])
def spec_GetsOf.B14 : List Nat := [0, 0, 3, 7, 0, 31, 63, 127, 127, 0, 767, 2047]
theorem spec_GetsOf.tab14 : rtab .any (opsOf Try.f30 14) = spec_GetsOf.T14 := by kernel_rfl
theorem spec_GetsOf.bits14 : waitsOk spec_GetsOf.T14.2 spec_GetsOf.B14 = true := by kernel_rfl
theorem qz0_ {p : Prop} (h : p := by repeat (first | (with_reducible first | exact HB.out | apply below_alloc | apply pw_below_drewN | apply below_drew1 | refine below_set ?_ GE599.out | refine below_set ?_ GE608.out | refine below_set ?_ GE619.out | refine below_set ?_ GE624.out | refine below_set ?_ GE628.out) | exact HB.out)) : p := h
set_option maxHeartbeats 8000000 in
set_option maxRecDepth 100000 in
theorem spec_GetsOf.calls (k : Nat) (A0_0 : Option Addr) (c0_0 : Nat) (l0_0 : List Int) (A0_1 : Option Addr) (c0_1 : Nat) (l0_1 : List (List Int)) (A1 : Option Addr) (c1 : Nat) (l1 : List (S36)) (r1 : List (S36)) (r2 : Bool) (w : World) (hr0_0 : Kd.C (Kd.int .i64) w A0_0 l0_0.length l0_0) (hc0_0 : l0_0.length ≤ c0_0) (hr0_1 : Kd.C (Kd.slice 3 (Kd.int .i64)) w A0_1 l0_1.length l0_1) (hc0_1 : l0_1.length ≤ c0_1) (hr1 : Kd.C k36 w A1 l1.length l1) (hc1 : l1.length ≤ c1) (h : spec_GetsOf.f k l0_0 l0_1 l1 = some (r1, r2)) :
  Calls Try.prog 30 #[.agg #[.slice A0_0 l0_0.length c0_0, .slice A0_1 l0_1.length c0_1], .slice A1 l1.length c1] w fun e w' => ∃ v0_ : Value, e = .returned (.tuple #[v0_, .bool r2]) ∧ Kd.R k36 36 w' w.heap.size (fun _ => True) v0_ r1 ∧ Below w.heap.size w w' := by
 have hu26 := Try.underlying26
 have hu36 := Try.underlying36
 have HR0_0 := Aside0.mk hr0_0
 have HC0_0 := Aside0.mk hc0_0
 clear hr0_0 hc0_0
 have HR0_1 := Aside0.mk hr0_1
 have HC0_1 := Aside0.mk hc0_1
 clear hr0_1 hc0_1
 have HR1 := Aside0.mk hr1
 have HC1 := Aside0.mk hc1
 clear hr1 hc1
 have HB := Aside0.mk (Below.refl w.heap.size w)
 have H : ((some (([] : List (S36)) : List (S36))).bind fun y600 => ((spec_PaysOk.f k l0_0 l0_1 l1).bind fun t603 => (if t603 = true then ((spec_OwesOf.f k l0_0 l0_1).bind fun t604 => (spec_GetsOf.l0 k l1 y600 t604 0 l0_0 l0_1)) else (some (y600, false))))) = some (r1, r2) := h
 clear h
 obtain ⟨y600, hy600⟩ : ∃ y_ : List (S36), y_ = (([] : List (S36))) := ⟨_, rfl⟩
 replace H : ((spec_PaysOk.f k l0_0 l0_1 l1).bind fun t603 => (if t603 = true then ((spec_OwesOf.f k l0_0 l0_1).bind fun t604 => (spec_GetsOf.l0 k l1 y600 t604 0 l0_0 l0_1)) else (some (y600, false)))) = some (r1, r2) := by first | (rw [hy600]; with_reducible exact H) | (have H2_ := (Option.bind_some _ _).symm.trans H; rw [hy600]; with_reducible exact H2_) | (have H2_ := (Option.bind_some _ _).symm.trans H; with_reducible exact H2_) | with_reducible exact H | (rw [hy600]; exact H) | exact H
 have Ny600 := Aside0.mk hy600
 clear hy600
 obtain ⟨t603, A3, H⟩ := bind_ H
 by_cases c4 : t603 = true
 ·subst c4
  replace H := ifp_ H
  obtain ⟨t604, A5, H⟩ := bind_ H
  have H' := Aside0.mk H
  clear H
  go_enter Try.func30, Try.ntmps30
  go_wp2_with (first | ((with_reducible refine gate_dst (N := 2) rfl ?_); refine bx_ (N := 2) #[.slice A0_0 l0_0.length c0_0, .slice A0_1 l0_1.length c0_1] 26 ?_; intro gb599 hg w6 hbox hb; have BK599 := Aside0.mk (hbox); have GW599 := Aside0.mk ((g6_ : w.heap.size ≤ gb599)); have GE599 := Aside0.mk ((g6_ : w.heap.size ≤ gb599)); replace HB := Aside0.mk (below_step (qz0_) hb); clear hb hbox hg) | ((with_reducible refine gate_dst (N := 17) rfl ?_); refine Kd.R_lit k36 _ 36 ?hg (N := 17) ?hd (xs := ([] : List (S36))) (inner := []) (ok := fun _ => True) (okp := fun _ => True) ?hr ?hp (fun _ hk => hk) trivial (Below.refl _ _) (Nat.le_refl _) (by simp) ?_; (case hd => rfl); (case hg => rfl); (case hr => first | (go_simp; done) | (go_simp; rfl)); (case hp => exact (Reps.none _ _)); intro v601 w7 ho8 hb hg_ hnew_; clear hg_ hnew_; (first | rw [← Ny600.out] at ho8 | (simp only [Int.reduceToNat] at ho8; rw [← Ny600.out] at ho8)); have HO602 := Aside0.mk (Kd.R_lower ho8 (below_size (qz0_))); replace BK599 := bb_ BK599 hb; replace HB := Aside0.mk (below_step (qz0_) hb); clear hb ho8; obtain ⟨hcz9_0, hcz9_1, hfz9_0, hfz9_1⟩ := blk2_ BK599) | ((with_reducible refine gate_callee (f := 21) rfl ?_); refine goesL_ (some 20) rfl rfl Try.func21 k_ rfl #[.agg #[.slice A0_0 l0_0.length c0_0, .slice A0_1 l0_1.length c0_1], .slice A1 l1.length c1] rfl (g2_) ?_; (with_reducible refine (spec_PaysOk.calls k _ _ l0_0 _ _ l0_1 _ _ l1 true _ ?side1 ?side2 ?side3 ?side4 ?side5 ?side6 A3.out).mono ?_); (case side1 => exact uf4_ HR0_0); (case side2 => exact HC0_0.out); (case side3 => exact uf4_ HR0_1); (case side4 => exact HC0_1.out); (case side5 => exact uf4_ HR1); (case side6 => exact HC1.out); rintro e w10 ⟨rfl, hb⟩; refine ⟨_, rfl, ?_⟩; replace HO602 := Aside0.mk (Kd.R_below (uf1_ HO602) hb); replace BK599 := bb_ BK599 hb; replace HB := Aside0.mk (below_step (qz0_) hb); (try clear hb); (try clear hk hi); obtain ⟨hcz11_0, hcz11_1, hfz11_0, hfz11_1⟩ := blk2_ BK599) | ((with_reducible refine gate_callee (f := 62) rfl ?_); refine goesL_ (some 24) rfl rfl Try.func62 k_ rfl #[.agg #[.slice A0_0 l0_0.length c0_0, .slice A0_1 l0_1.length c0_1]] rfl (g2_) ?_; (with_reducible refine (spec_OwesOf.calls k _ _ l0_0 _ _ l0_1 t604 _ ?side1 ?side2 ?side3 ?side4 A5.out).mono ?_); (case side1 => exact uf4_ HR0_0); (case side2 => exact HC0_0.out); (case side3 => exact uf4_ HR0_1); (case side4 => exact HC0_1.out); rintro e w12 ⟨v605, rfl, ho0, hb⟩; refine ⟨_, rfl, ?_⟩; replace HO602 := Aside0.mk (Kd.R_below (uf1_ HO602) hb); have HO606 := Aside0.mk (Kd.R_lower ho0 (below_size (qz0_))); replace BK599 := bb_ BK599 hb; replace HB := Aside0.mk (below_step (qz0_) hb); (try clear hb); (try clear hk hi); (try clear ho0)))
  go_loopg [6, 8] k (fun kq v6 v8 w' => ∃ (x6_1 : List (S36)) (x8_1 : Int), v8 = .int .i64 x8_1 ∧ Aside0 (spec_GetsOf.l0 kq l1 x6_1 t604 x8_1 l0_0 l0_1 = some (r1, r2)) ∧ Aside0 (kq ≤ k) ∧ Aside0 (Kd.R k36 36 w' w.heap.size (fun _ => True) v6 x6_1) ∧ Aside0 (Kd.R (Kd.int .i64) 3 w' w.heap.size (fun _ => True) v605 t604) ∧ Aside0 (w'.heap[gb599]? = some (.cells #[(.slice A0_0 l0_0.length c0_0), (.slice A0_1 l0_1.length c0_1)] 26 (0, 0))) ∧ Aside0 (Below w.heap.size w w'))
  case atStart => exact ⟨(y600), (0), (g3_), H', ⟨Nat.le_refl _⟩, ⟨uf1_ HO602⟩, ⟨uf1_ HO606⟩, ⟨uf0_ BK599⟩, ⟨qz0_⟩⟩
  case round =>
   clear H'
   try clear c1
   try clear c2
   try clear p2
   try clear c3
   try clear c4
   try clear c6
   try clear hcz11_0
   try clear hcz11_1
   try clear hcz9_0
   try clear hcz9_1
   try clear hfz11_0
   try clear hfz11_1
   try clear hfz9_0
   try clear hfz9_1
   obtain ⟨x6_1, x8_1, rfl, HA, HK1, HO_6, HO_7, BK599, HB⟩ := hrel
   cases gk with
   | zero => exact absurd HA.out (by simp [spec_GetsOf.l0])
   | succ k1 =>
    have H := HA.out
    clear HA
    simp only [spec_GetsOf.l0] at H
    by_cases c13 : x8_1 < (l1.length : Int)
    ·rw [if_pos c13] at H
     have c13b0 := decide_eq_true c13
     clear c13
     obtain ⟨c14, H⟩ := pos_ H
     have c14b0 := decide_eq_true c14
     clear c14
     obtain ⟨c15, H⟩ := pos_ H
     have c15b0 := decide_eq_true c15
     clear c15
     have H' := Aside0.mk H
     clear H
     obtain ⟨hcz16_0, hcz16_1, hfz16_0, hfz16_1⟩ := blk2_ BK599
     have p607 : 0 ≤ (x8_1 : Int) := of_decide_eq_true (g1_)
     have q607 : x8_1 < (l0_0.length : Int) := of_decide_eq_true (g1_)
     obtain ⟨ad607, e607, hx607_0⟩ := Kd.at_int HR0_0.out x8_1 p607 q607
     cases e607
     replace hx607_0 := cl_ HB hx607_0
     replace p607 := eq_true p607
     replace q607 := eq_true q607
     go_wp2_with (first | ((with_reducible refine gate_dst (N := 9) rfl ?_); refine bx_ (N := 9) #[.int .i64 0, .int .i64 0] 36 ?_; intro gb608 hg w17 hbox hb; replace HO_6 := Aside0.mk (Kd.R_below (Kd.R_elderB (uf1_ HO_6) gb608 (Nat.le_of_eq hg.symm)) hb); replace HO_7 := Aside0.mk (Kd.R_below (uf1_ HO_7) hb); have BK608 := Aside0.mk (hbox); have GW608 := Aside0.mk ((g6_ : w.heap.size ≤ gb608)); have GE608 := Aside0.mk ((g6_ : w.heap.size ≤ gb608)); replace HB := Aside0.mk (below_step (qz0_) hb); have NB599_608 := Aside0.mk ((by rw [hg]; exact Nat.ne_of_lt (blk_lt (g := gb599) (o := .cells #[.slice (some ad607) l0_0.length c0_0, .slice A0_1 l0_1.length c0_1] 26 (0, 0)) (uf0_ BK599)) : gb599 ≠ gb608)); have NB608_599 := Aside0.mk ((by rw [hg]; exact Nat.ne_of_gt (blk_lt (g := gb599) (o := .cells #[.slice (some ad607) l0_0.length c0_0, .slice A0_1 l0_1.length c0_1] 26 (0, 0)) (uf0_ BK599)) : gb608 ≠ gb599)); replace BK599 := bb_ BK599 hb; clear hb hbox hg; have hnb18 := NB608_599.out; have hnc18 := NB599_608.out; obtain ⟨hcz19_0, hcz19_1, hfz19_0, hfz19_1⟩ := blk2_ BK608))
     go_loopg [10] k1 (fun kq v10 w' => ∃ (x10_2 : Int) (x609000_2 : Int) (x609001_2 : Int), v10 = .int .i64 x10_2 ∧ Aside0 (spec_GetsOf.l1 kq l1 x6_1 t604 x8_1 x10_2 l0_0 l0_1 x609000_2 x609001_2 = some (r1, r2)) ∧ Aside0 (kq ≤ k1) ∧ Aside0 (Kd.R k36 36 w' w.heap.size (fun k_ => k_ ≠ gb608) u6 x6_1) ∧ Aside0 (Kd.R (Kd.int .i64) 3 w' w.heap.size (fun _ => True) v605 t604) ∧ Aside0 (w'.heap[gb599]? = some (.cells #[(.slice (some ad607) l0_0.length c0_0), (.slice A0_1 l0_1.length c0_1)] 26 (0, 0))) ∧ Aside0 (w'.heap[gb608]? = some (.cells #[.int .i64 x609000_2, .int .i64 x609001_2] 36 (0, 0))) ∧ Aside0 (Below w.heap.size w w'))
     case atStart => exact ⟨(0), (rd l0_0 x8_1), (1), (g3_), H', ⟨Nat.le_refl _⟩, ⟨by (with_reducible repeat (first | apply Kd.R_alloc | apply Kd.R_drewN | apply Kd.R_drew)); exact Kd.R_mono (Kd.R_far (p := ⟨gb608, 1, none⟩) (Kd.R_far (p := ⟨gb608, 0, none⟩) (Kd.R_mono HO_6.out (fun k_ hk => (⟨hk, hk.2⟩ : _ ∧ k_ ≠ gb608))) (fun _ hk => hk.2) (.int .i64 (rd l0_0 x8_1))) (fun _ hk => hk.2) (.int .i64 1)) (fun _ hk => hk.1.2)⟩, ⟨by (with_reducible repeat (first | apply Kd.R_alloc | apply Kd.R_drewN | apply Kd.R_drew)); exact Kd.R_mono (Kd.R_far (p := ⟨gb608, 1, none⟩) (Kd.R_far (p := ⟨gb608, 0, none⟩) (Kd.R_types HO_7.out BK608.out (by decide)) (fun _ hk => hk.2) (.int .i64 (rd l0_0 x8_1))) (fun _ hk => hk.2) (.int .i64 1)) (fun _ hk => trivial)⟩, ⟨by (with_reducible repeat (first | refine blk_drewN ?_ _ | refine blk_drew ?_ | refine blk_alloc ?_ _)); refine blk_far ?_ NB599_608.out _; (with_reducible repeat (first | refine blk_drewN ?_ _ | refine blk_drew ?_ | refine blk_alloc ?_ _)); refine blk_far ?_ NB599_608.out _; (with_reducible repeat (first | refine blk_drewN ?_ _ | refine blk_drew ?_ | refine blk_alloc ?_ _)); exact BK599.out⟩, ⟨by (with_reducible repeat (first | refine blk_drewN ?_ _ | refine blk_drew ?_ | refine blk_alloc ?_ _)); refine blk_put (cs := #[.int .i64 (rd l0_0 x8_1), .int .i64 0]) ?_ 1 _ rfl; (with_reducible repeat (first | refine blk_drewN ?_ _ | refine blk_drew ?_ | refine blk_alloc ?_ _)); refine blk_put (cs := #[.int .i64 0, .int .i64 0]) ?_ 0 _ rfl; (with_reducible repeat (first | refine blk_drewN ?_ _ | refine blk_drew ?_ | refine blk_alloc ?_ _)); exact BK608.out⟩, ⟨qz0_⟩⟩
     case round =>
      clear H'
      try clear c1
      try clear c2
      try clear p2
      try clear c3
      try clear c4
      try clear c6
      try clear p6
      try clear q6
      try clear hx6
      try clear c13
      try clear c13b0
      try clear c14
      try clear c14b0
      try clear c15
      try clear c15b0
      try clear c18
      try clear hcz11_0
      try clear hcz11_1
      try clear hcz16_0
      try clear hcz16_1
      try clear hcz19_0
      try clear hcz19_1
      try clear hcz9_0
      try clear hcz9_1
      try clear hfz11_0
      try clear hfz11_1
      try clear hfz16_0
      try clear hfz16_1
      try clear hfz19_0
      try clear hfz19_1
      try clear hfz9_0
      try clear hfz9_1
      try clear hx607_0
      try clear p2
      try clear p607
      try clear q607
      obtain ⟨x10_2, x609000_2, x609001_2, rfl, HA, HK2, HO_6, HO_7, BK599, BK608, HB⟩ := hrel
      cases gk with
      | zero => exact absurd HA.out (by simp [spec_GetsOf.l1])
      | succ k2 =>
       have H := HA.out
       clear HA
       simp only [spec_GetsOf.l1] at H
       by_cases c20 : x10_2 < (l1.length : Int)
       ·rw [if_pos c20] at H
        have c20b0 := decide_eq_true c20
        clear c20
        obtain ⟨c21, H⟩ := pos_ H
        have c21b0 := decide_eq_true c21
        clear c21
        obtain ⟨c22, H⟩ := pos_ H
        have c22b0 := decide_eq_true c22
        clear c22
        by_cases c23 : (rd t604 x10_2) = 0
        ·rw [if_pos c23] at H
         have c23b0 : ((rd t604 x10_2) == 0) = true := beq_iff_eq.mpr c23
         have c23b1 : ((rd t604 x10_2) != 0) = false := bne_eq_false_iff_eq.mpr c23
         clear c23
         have H' := Aside0.mk H
         clear H
         obtain ⟨Ao24, co24, eo24⟩ := Kd.R_slice HO_7.out
         subst eo24
         have p612 : 0 ≤ (x10_2 : Int) := of_decide_eq_true (g1_)
         have q612 : x10_2 < (t604.length : Int) := of_decide_eq_true (g1_)
         obtain ⟨ad612, e612, hx612_0⟩ := Kd.at_int (Kd.R_reads' HO_7.out).2.2 x10_2 p612 q612
         cases e612
         replace p612 := eq_true p612
         replace q612 := eq_true q612
         go_wp2
         go_roundg k2
         case measure => have := HK1.out; have := HK2.out; omega
         case rel => exact ⟨(wrap64 (x10_2 + 1)), (x609000_2), (x609001_2), (g3_), H', ⟨g34_⟩, ⟨uf1_ HO_6⟩, ⟨uf1_ HO_7⟩, ⟨uf0_ BK599⟩, ⟨uf0_ BK608⟩, ⟨qz0_⟩⟩
        ·rw [if_neg c23] at H
         have c23b0 : ((rd t604 x10_2) == 0) = false := beq_eq_false_iff_ne.mpr c23
         have c23b1 : ((rd t604 x10_2) != 0) = true := bne_iff_ne.mpr c23
         obtain ⟨c25, H⟩ := pos_ H
         have c25b0 := decide_eq_true c25
         clear c25
         obtain ⟨c26, H⟩ := pos_ H
         have c26b0 := decide_eq_true c26
         clear c26
         obtain ⟨c27, H⟩ := pos_ H
         have c27b0 := decide_eq_true c27
         clear c27
         replace H := Option.bind_eq_some_iff.mp H
         obtain ⟨⟨t616, t617, t618⟩, A280, H⟩ := H
         replace H : ((spec_TimesOf.f k2 ((rd_T36 l1 x10_2).f0) ((rd_T36 l1 x10_2).f1) t616 t617).bind fun bt621 => ((spec_PlusOf.f k2 x609000_2 x609001_2 bt621.1 bt621.2.1).bind fun bt625 => (if bt621.2.2 = true then (if bt625.2.2 = true then (spec_GetsOf.l1 k2 l1 x6_1 t604 x8_1 (wrap64 (x10_2 + 1)) l0_0 l0_1 bt625.1 bt625.2.1) else (some ((([] : List (S36))), false))) else (some ((([] : List (S36))), false))))) = some (r1, r2) := H
         have A28 := Aside0.mk A280
         clear A280
         replace H := Option.bind_eq_some_iff.mp H
         obtain ⟨⟨t621, t622, t623⟩, A290, H⟩ := H
         replace H : ((spec_PlusOf.f k2 x609000_2 x609001_2 t621 t622).bind fun bt625 => (if t623 = true then (if bt625.2.2 = true then (spec_GetsOf.l1 k2 l1 x6_1 t604 x8_1 (wrap64 (x10_2 + 1)) l0_0 l0_1 bt625.1 bt625.2.1) else (some ((([] : List (S36))), false))) else (some ((([] : List (S36))), false)))) = some (r1, r2) := H
         have A29 := Aside0.mk A290
         clear A290
         replace H := Option.bind_eq_some_iff.mp H
         obtain ⟨⟨t625, t626, t627⟩, A300, H⟩ := H
         replace H : (if t623 = true then (if t627 = true then (spec_GetsOf.l1 k2 l1 x6_1 t604 x8_1 (wrap64 (x10_2 + 1)) l0_0 l0_1 t625 t626) else (some ((([] : List (S36))), false))) else (some ((([] : List (S36))), false))) = some (r1, r2) := H
         have A30 := Aside0.mk A300
         clear A300
         by_cases c31 : t623 = true
         ·subst c31
          replace H := ifp_ H
          by_cases c32 : t627 = true
          ·subst c32
           replace H := ifp_ H
           have H' := Aside0.mk H
           clear H
           obtain ⟨Ao33, co33, eo33⟩ := Kd.R_slice HO_7.out
           subst eo33
           have p612 : 0 ≤ (x10_2 : Int) := of_decide_eq_true (g1_)
           have q612 : x10_2 < (t604.length : Int) := of_decide_eq_true (g1_)
           obtain ⟨ad612, e612, hx612_0⟩ := Kd.at_int (Kd.R_reads' HO_7.out).2.2 x10_2 p612 q612
           cases e612
           replace p612 := eq_true p612
           replace q612 := eq_true q612
           try go_wp2
           replace HO_6 := Aside0.mk (Kd.R_drew HO_6.out)
           replace HO_7 := Aside0.mk (Kd.R_drew HO_7.out)
           replace BK599 := Aside0.mk (blk_drew BK599.out)
           replace BK608 := Aside0.mk (blk_drew BK608.out)
           replace HB := Aside0.mk (below_drew1 HB.out)
           have p613 : 0 ≤ (x10_2 : Int) := of_decide_eq_true (g1_)
           have q613 : x10_2 < (l0_1.length : Int) := of_decide_eq_true (g1_)
           obtain ⟨ad613, A613_0, c613_0, e613, hx613_0, hl613_0, hi613_0⟩ := at_L2 HR0_1.out x10_2 p613 q613
           have hw613_0 := hx613_0
           cases e613
           replace hx613_0 := cl_ HB hx613_0
           have HR613_0 := Aside0.mk hi613_0
           have HC613_0 := Aside0.mk hl613_0
           clear hi613_0 hl613_0
           replace p613 := eq_true p613
           replace q613 := eq_true q613
           have p614 : 0 ≤ (x8_1 : Int) := of_decide_eq_true (g1_)
           have q614 : x8_1 < ((rd_L2 l0_1 x10_2).length : Int) := of_decide_eq_true (g1_)
           obtain ⟨ad614, e614, hx614_0⟩ := Kd.at_int HR613_0.out x8_1 p614 q614
           have hw614_0 := hx614_0
           cases e614
           replace hx614_0 := cl_ HB hx614_0
           replace p614 := eq_true p614
           replace q614 := eq_true q614
           have p615 : 0 ≤ (x10_2 : Int) := of_decide_eq_true (g1_)
           have q615 : x10_2 < (t604.length : Int) := of_decide_eq_true (g1_)
           obtain ⟨ad615, e615, hx615_0⟩ := Kd.at_int (Kd.R_reads' HO_7.out).2.2 x10_2 p615 q615
           obtain rfl : ad612 = ad615 := (by injection e615)
           replace p615 := eq_true p615
           replace q615 := eq_true q615
           refine start_ (n := 19) (S := fun w' => w'.cell? ⟨gb599, 0, none⟩ = some (.slice (some ad607) l0_0.length c0_0) ∧ w'.cell? ⟨gb599, 1, none⟩ = some (.slice (some ad613) l0_1.length c0_1) ∧ w'.cell? (ad613.add (x10_2).toNat) = some (.slice (some ad614) (rd_L2 l0_1 x10_2).length c613_0) ∧ w'.cell? (ad614.add (x8_1).toNat) = some (.int .i64 (rd (rd_L2 l0_1 x10_2) x8_1)) ∧ w'.cell? (ad612.add (x10_2).toNat) = some (.int .i64 (rd t604 x10_2))) (ds := []) (tl_ 19 0) (g0_) rfl (g0_) ⟨(blk_cell BK599.out 0).trans rfl, (blk_cell BK599.out 1).trans rfl, ((cl_ HB hw613_0).trans rfl), ((cl_ HB hw614_0).trans rfl), hx615_0⟩ (fun hHeld => ?_); refine with_tabW spec_GetsOf.tab13 spec_GetsOf.bits13 (fun HT_ HW_ => ?_)
           generalize wr.drew = w34 at HO_6 HO_7 BK599 BK608 HB HR613_0 hx613_0 hx614_0 hx615_0 hHeld ⊢
           refine pw_ 0 49 (tl_ 19 1) rfl rfl ?_
           refine pw_ 2 51 (tl_ 19 5) rfl rfl ?_
           refine pw_ 5 54 (tl_ 19 37) rfl rfl ?_
           refine pw_ 8 57 (tl_ 19 293) rfl rfl ?_
           refine pw_ 9 58 (tl_ 19 805) rfl rfl ?_
           refine pw_ 10 59 (tl_ 19 1829) rfl rfl ?_
           refine tk5_ 1 50 (tl_ 19 1831) rfl rfl hHeld ?_
           refine pw_ 3 52 (tl_ 19 1839) rfl rfl ?_
           refine tk5_ 4 53 (tl_ 19 1855) rfl rfl hHeld ?_
           refine pw_ 6 55 (tl_ 19 1919) rfl rfl ?_
           refine tk5_ 7 56 (tl_ 19 2047) rfl rfl hHeld ?_
           refine tk5_ 11 60 (tl_ 19 4095) rfl rfl hHeld ?_
           refine join_ (σ := Nat) 2 (tl_ 19 131071) (fun s_ => [(61, .tuple #[.agg #[.int .i64 t616, .int .i64 t617], .bool t618]), (11, .pointer (some ⟨s_, 0, none⟩)), (48, .tuple #[.agg #[.int .i64 t616, .int .i64 t617], .bool t618]), (62, .agg #[.int .i64 t616, .int .i64 t617]), (63, .bool t618)]) (fun s_ w' => (w'.cell? ⟨gb599, 0, none⟩ = some (.slice (some ad607) l0_0.length c0_0) ∧ w'.cell? ⟨gb599, 1, none⟩ = some (.slice (some ad613) l0_1.length c0_1) ∧ w'.cell? (ad613.add (x10_2).toNat) = some (.slice (some ad614) (rd_L2 l0_1 x10_2).length c613_0) ∧ w'.cell? (ad614.add (x8_1).toNat) = some (.int .i64 (rd (rd_L2 l0_1 x10_2) x8_1)) ∧ w'.cell? (ad612.add (x10_2).toNat) = some (.int .i64 (rd t604 x10_2))) ∧ (Kd.R k36 36 w' w.heap.size (fun k_ => k_ ≠ gb608 ∧ k_ ≠ s_) u6 x6_1) ∧ (Kd.R (Kd.int .i64) 3 w' w.heap.size (fun _ => True) (.slice (some ad612) t604.length co33) t604) ∧ (w'.heap[gb599]? = some (.cells #[.slice (some ad607) l0_0.length c0_0, .slice (some ad613) l0_1.length c0_1] 26 (0, 0))) ∧ (w'.heap[gb608]? = some (.cells #[.int .i64 x609000_2, .int .i64 x609001_2] 36 (0, 0))) ∧ (w'.heap[s_]? = some (.cells #[.int .i64 0, .int .i64 0] 36 (0, 0))) ∧ (w.heap.size ≤ s_) ∧ (w.heap.size ≤ s_) ∧ (gb599 ≠ s_) ∧ (s_ ≠ gb599) ∧ (gb608 ≠ s_) ∧ (s_ ≠ gb608) ∧ (Below w.heap.size w w')) ?_ ?_
           rotate_left
           ·intro hCont
            refine two_ (i := 12) (j := 16) (Ni := some 61) (Nj := some 11) (tl_ 19 8191) (tl_ 19 69631) rfl rfl rfl rfl (two_of HT_.out (g0_)) (by decide) (by decide) (fun K hK => ?_) (fun K hK => ?_)
            ·skip
             refine goes_ Try.func74 (g0_) rfl #[.int .i64 (rd (rd_L2 l0_1 x10_2) x8_1), .int .i64 (rd t604 x10_2)] (by rfl) rfl rfl (g2_) ?_
             with_reducible refine (spec_FracOf.calls k2 (rd (rd_L2 l0_1 x10_2) x8_1) (rd t604 x10_2) t616 t617 t618 _ A28.out).mono ?_
             rintro e w35 ⟨rfl, hb⟩
             have HS4_ := (hb.cell (World.block_lt_of_cell? _ _ (hHeld.2.2.2.2))).trans (hHeld.2.2.2.2)
             refine ⟨_, rfl, ?_⟩
             replace HO_6 := Aside0.mk (Kd.R_below (uf1_ HO_6) hb)
             replace HO_7 := Aside0.mk (Kd.R_below (uf1_ HO_7) hb)
             replace BK599 := bb_ BK599 hb
             replace BK608 := bb_ BK608 hb
             replace HB := Aside0.mk (below_step (qz0_) hb)
             (try clear hb)
             (try clear hk hi)
             refine hK.out _ _ ⟨(blk_cell BK599.out 0).trans rfl, (blk_cell BK599.out 1).trans rfl, ((cl_ HB hw613_0).trans rfl), ((cl_ HB hw614_0).trans rfl), HS4_⟩ (fun hHeld => ?_)
             clear hK K
             refine nm_ ?_
             refine pw_ 13 48 (tl_ 19 16383) rfl rfl ?_
             refine pw_ 14 62 (tl_ 19 32767) rfl rfl ?_
             refine pw_ 15 63 (tl_ 19 65535) rfl rfl ?_
             refine one_ (i := 16) (N := some 11) (tl_ 19 131071) rfl rfl (one_of HT_.out (g0_)) (by decide) (fun K hK => ?_)
             refine bs_ (N := 11) #[.int .i64 0, .int .i64 0] 36 ?_
             intro gb619 hg w36 hbox hb
             have HS4_ := (hb.cell (World.block_lt_of_cell? _ _ (hHeld.2.2.2.2))).trans (hHeld.2.2.2.2)
             replace HO_6 := Aside0.mk (Kd.R_below (Kd.R_elderB (uf1_ HO_6) gb619 (Nat.le_of_eq hg.symm)) hb)
             replace HO_7 := Aside0.mk (Kd.R_below (uf1_ HO_7) hb)
             have BK619 := Aside0.mk (hbox)
             have GW619 := Aside0.mk ((g6_ : w.heap.size ≤ gb619))
             have GE619 := Aside0.mk ((g6_ : w.heap.size ≤ gb619))
             replace HB := Aside0.mk (below_step (qz0_) hb)
             have NB599_619 := Aside0.mk ((g25_ : gb599 ≠ gb619))
             have NB619_599 := Aside0.mk ((g26_ : gb619 ≠ gb599))
             replace BK599 := bb_ BK599 hb
             have NB608_619 := Aside0.mk ((g27_ : gb608 ≠ gb619))
             have NB619_608 := Aside0.mk ((g28_ : gb619 ≠ gb608))
             replace BK608 := bb_ BK608 hb
             clear hb hbox hg
             refine hK.out _ _ ⟨(blk_cell BK599.out 0).trans rfl, (blk_cell BK599.out 1).trans rfl, ((cl_ HB hw613_0).trans rfl), ((cl_ HB hw614_0).trans rfl), HS4_⟩ (fun hHeld => ?_)
             clear hK K
             refine nm_ ?_
             exact norm_ (g8_) (hCont (gb619) _ ⟨hHeld, (uf1_ HO_6), (uf1_ HO_7), (uf0_ BK599), (uf0_ BK608), (uf0_ BK619), GW619.out, GE619.out, NB599_619.out, NB619_599.out, NB608_619.out, NB619_608.out, (qz0_)⟩)
            ·skip
             refine bs_ (N := 11) #[.int .i64 0, .int .i64 0] 36 ?_
             intro gb619 hg w35 hbox hb
             have HS4_ := (hb.cell (World.block_lt_of_cell? _ _ (hHeld.2.2.2.2))).trans (hHeld.2.2.2.2)
             replace HO_6 := Aside0.mk (Kd.R_below (Kd.R_elderB (uf1_ HO_6) gb619 (Nat.le_of_eq hg.symm)) hb)
             replace HO_7 := Aside0.mk (Kd.R_below (uf1_ HO_7) hb)
             have BK619 := Aside0.mk (hbox)
             have GW619 := Aside0.mk ((g6_ : w.heap.size ≤ gb619))
             have GE619 := Aside0.mk ((g6_ : w.heap.size ≤ gb619))
             replace HB := Aside0.mk (below_step (qz0_) hb)
             have NB599_619 := Aside0.mk ((g25_ : gb599 ≠ gb619))
             have NB619_599 := Aside0.mk ((g26_ : gb619 ≠ gb599))
             replace BK599 := bb_ BK599 hb
             have NB608_619 := Aside0.mk ((g27_ : gb608 ≠ gb619))
             have NB619_608 := Aside0.mk ((g28_ : gb619 ≠ gb608))
             replace BK608 := bb_ BK608 hb
             clear hb hbox hg
             refine hK.out _ _ ⟨(blk_cell BK599.out 0).trans rfl, (blk_cell BK599.out 1).trans rfl, ((cl_ HB hw613_0).trans rfl), ((cl_ HB hw614_0).trans rfl), HS4_⟩ (fun hHeld => ?_)
             clear hK K
             refine nm_ ?_
             refine one_ (i := 12) (N := some 61) (tl_ 19 73727) rfl rfl (one_of HT_.out (g0_)) (by decide) (fun K hK => ?_)
             refine goes_ Try.func74 (g0_) rfl #[.int .i64 (rd (rd_L2 l0_1 x10_2) x8_1), .int .i64 (rd t604 x10_2)] (by rfl) rfl rfl (g2_) ?_
             with_reducible refine (spec_FracOf.calls k2 (rd (rd_L2 l0_1 x10_2) x8_1) (rd t604 x10_2) t616 t617 t618 _ A28.out).mono ?_
             rintro e w36 ⟨rfl, hb⟩
             have HS4_ := (hb.cell (World.block_lt_of_cell? _ _ (hHeld.2.2.2.2))).trans (hHeld.2.2.2.2)
             refine ⟨_, rfl, ?_⟩
             replace HO_6 := Aside0.mk (Kd.R_below (uf1_ HO_6) hb)
             replace HO_7 := Aside0.mk (Kd.R_below (uf1_ HO_7) hb)
             replace BK599 := bb_ BK599 hb
             replace BK608 := bb_ BK608 hb
             replace BK619 := bb_ BK619 hb
             replace HB := Aside0.mk (below_step (qz0_) hb)
             (try clear hb)
             (try clear hk hi)
             refine hK.out _ _ ⟨(blk_cell BK599.out 0).trans rfl, (blk_cell BK599.out 1).trans rfl, ((cl_ HB hw613_0).trans rfl), ((cl_ HB hw614_0).trans rfl), HS4_⟩ (fun hHeld => ?_)
             clear hK K
             refine nm_ ?_
             refine pw_ 13 48 (tl_ 19 81919) rfl rfl ?_
             refine pw_ 14 62 (tl_ 19 98303) rfl rfl ?_
             refine pw_ 15 63 (tl_ 19 131071) rfl rfl ?_
             exact norm_ (g8_) (hCont (gb619) _ ⟨hHeld, (uf1_ HO_6), (uf1_ HO_7), (uf0_ BK599), (uf0_ BK608), (uf0_ BK619), GW619.out, GE619.out, NB599_619.out, NB619_599.out, NB608_619.out, NB619_608.out, (qz0_)⟩)
           rintro gb619 w37 ⟨hS_, h0_, h1_, h2_, h3_, h4_, h5_, h6_, h7_, h8_, h9_, h10_, h11_⟩
           replace HO_6 : Aside0 (Kd.R k36 36 w37 w.heap.size (fun k_ => k_ ≠ gb608 ∧ k_ ≠ gb619) u6 x6_1) := ⟨h0_⟩
           replace HO_7 : Aside0 (Kd.R (Kd.int .i64) 3 w37 w.heap.size (fun _ => True) (.slice (some ad612) t604.length co33) t604) := ⟨h1_⟩
           replace BK599 : Aside0 (w37.heap[gb599]? = some (.cells #[.slice (some ad607) l0_0.length c0_0, .slice (some ad613) l0_1.length c0_1] 26 (0, 0))) := ⟨h2_⟩
           replace BK608 : Aside0 (w37.heap[gb608]? = some (.cells #[.int .i64 x609000_2, .int .i64 x609001_2] 36 (0, 0))) := ⟨h3_⟩
           have BK619 : Aside0 (w37.heap[gb619]? = some (.cells #[.int .i64 0, .int .i64 0] 36 (0, 0))) := ⟨h4_⟩
           have GW619 : Aside0 (w.heap.size ≤ gb619) := ⟨h5_⟩
           have GE619 : Aside0 (w.heap.size ≤ gb619) := ⟨h6_⟩
           have NB599_619 : Aside0 (gb599 ≠ gb619) := ⟨h7_⟩
           have NB619_599 : Aside0 (gb619 ≠ gb599) := ⟨h8_⟩
           have NB608_619 : Aside0 (gb608 ≠ gb619) := ⟨h9_⟩
           have NB619_608 : Aside0 (gb619 ≠ gb608) := ⟨h10_⟩
           replace HB : Aside0 (Below w.heap.size w w37) := ⟨h11_⟩
           clear h0_ h1_ h2_ h3_ h4_ h5_ h6_ h7_ h8_ h9_ h10_ h11_
           have hHeld : w37.cell? ⟨gb599, 0, none⟩ = some (.slice (some ad607) l0_0.length c0_0) ∧ w37.cell? ⟨gb599, 1, none⟩ = some (.slice (some ad613) l0_1.length c0_1) ∧ w37.cell? (ad613.add (x10_2).toNat) = some (.slice (some ad614) (rd_L2 l0_1 x10_2).length c613_0) ∧ w37.cell? (ad614.add (x8_1).toNat) = some (.int .i64 (rd (rd_L2 l0_1 x10_2) x8_1)) ∧ w37.cell? (ad612.add (x10_2).toNat) = some (.int .i64 (rd t604 x10_2)) := hS_
           refine norm_ (a' := ?_) ?_ ?_
           rotate_left
           ·simp only [putAll, Act.put, List.setIfInBounds_toArray, List.set_cons_zero, List.set_cons_succ]
            rfl
           refine one_ (i := 17) (N := none) (tl_ 19 262143) rfl rfl (one_of HT_.out (g0_)) (by decide) (fun K hK => ?_)
           have hs38 : w37.cell? ⟨gb619, 0, none⟩ = some (.int .i64 0) := (blk_cell BK619.out 0).trans rfl
           have hfs38 := blk_frozen BK619.out 0
           have hns38_0 := NB599_619.out
           have hns38_1 := NB608_619.out
           have hms38_0 := NB619_599.out
           have hms38_1 := NB619_608.out
           have hs39 : w37.cell? ⟨gb619, 1, none⟩ = some (.int .i64 0) := (blk_cell BK619.out 1).trans rfl
           have hfs39 := blk_frozen BK619.out 1
           have hns39_0 := NB599_619.out
           have hns39_1 := NB608_619.out
           have hms39_0 := NB619_599.out
           have hms39_1 := NB619_608.out
           refine skip_ (w1 := ?_) (by rfl) rfl ?_ ?_
           rotate_left
           ·go_simp
            rfl
           refine hK.out _ _ ⟨(cf_ NB599_619 ((cf_ NB599_619 (hHeld.1)))), (cf_ NB599_619 ((cf_ NB599_619 (hHeld.2.1)))), ((cell_far (p := ⟨gb619, _, none⟩) (by first | exact Nat.ne_of_lt (Nat.lt_of_lt_of_le (by have := World.block_lt_of_cell? _ _ hw613_0; first | rwa [add_block] at this | exact this) GW619.out) | (rw [add_block]; exact Nat.ne_of_lt (Nat.lt_of_lt_of_le (by have := World.block_lt_of_cell? _ _ hw613_0; first | rwa [add_block] at this | exact this) GW619.out)) | (show (Addr.add _ _).block ≠ _; rw [add_block]; exact Nat.ne_of_lt (Nat.lt_of_lt_of_le (by have := World.block_lt_of_cell? _ _ hw613_0; first | rwa [add_block] at this | exact this) GW619.out)) | (dsimp only; exact Nat.ne_of_lt (Nat.lt_of_lt_of_le (by have := World.block_lt_of_cell? _ _ hw613_0; first | rwa [add_block] at this | exact this) GW619.out))) _).trans (((cell_far (p := ⟨gb619, _, none⟩) (by first | exact Nat.ne_of_lt (Nat.lt_of_lt_of_le (by have := World.block_lt_of_cell? _ _ hw613_0; first | rwa [add_block] at this | exact this) GW619.out) | (rw [add_block]; exact Nat.ne_of_lt (Nat.lt_of_lt_of_le (by have := World.block_lt_of_cell? _ _ hw613_0; first | rwa [add_block] at this | exact this) GW619.out)) | (show (Addr.add _ _).block ≠ _; rw [add_block]; exact Nat.ne_of_lt (Nat.lt_of_lt_of_le (by have := World.block_lt_of_cell? _ _ hw613_0; first | rwa [add_block] at this | exact this) GW619.out)) | (dsimp only; exact Nat.ne_of_lt (Nat.lt_of_lt_of_le (by have := World.block_lt_of_cell? _ _ hw613_0; first | rwa [add_block] at this | exact this) GW619.out))) _).trans (hHeld.2.2.1)))), ((cell_far (p := ⟨gb619, _, none⟩) (by first | exact Nat.ne_of_lt (Nat.lt_of_lt_of_le (by have := World.block_lt_of_cell? _ _ hw614_0; first | rwa [add_block] at this | exact this) GW619.out) | (rw [add_block]; exact Nat.ne_of_lt (Nat.lt_of_lt_of_le (by have := World.block_lt_of_cell? _ _ hw614_0; first | rwa [add_block] at this | exact this) GW619.out)) | (show (Addr.add _ _).block ≠ _; rw [add_block]; exact Nat.ne_of_lt (Nat.lt_of_lt_of_le (by have := World.block_lt_of_cell? _ _ hw614_0; first | rwa [add_block] at this | exact this) GW619.out)) | (dsimp only; exact Nat.ne_of_lt (Nat.lt_of_lt_of_le (by have := World.block_lt_of_cell? _ _ hw614_0; first | rwa [add_block] at this | exact this) GW619.out))) _).trans (((cell_far (p := ⟨gb619, _, none⟩) (by first | exact Nat.ne_of_lt (Nat.lt_of_lt_of_le (by have := World.block_lt_of_cell? _ _ hw614_0; first | rwa [add_block] at this | exact this) GW619.out) | (rw [add_block]; exact Nat.ne_of_lt (Nat.lt_of_lt_of_le (by have := World.block_lt_of_cell? _ _ hw614_0; first | rwa [add_block] at this | exact this) GW619.out)) | (show (Addr.add _ _).block ≠ _; rw [add_block]; exact Nat.ne_of_lt (Nat.lt_of_lt_of_le (by have := World.block_lt_of_cell? _ _ hw614_0; first | rwa [add_block] at this | exact this) GW619.out)) | (dsimp only; exact Nat.ne_of_lt (Nat.lt_of_lt_of_le (by have := World.block_lt_of_cell? _ _ hw614_0; first | rwa [add_block] at this | exact this) GW619.out))) _).trans (hHeld.2.2.2.1)))), ((cell_far (p := ⟨gb619, _, none⟩) (g72_) _).trans (((cell_far (p := ⟨gb619, _, none⟩) (g72_) _).trans (hHeld.2.2.2.2))))⟩ (fun hHeld => ?_)
           clear hK K
           refine pw_ 18 12 (tl_ 19 524287) rfl rfl ?_
           refine done_ (done_of HT_.out (g0_)) ?_
           try go_wp2
           have n0_ : Aside0 (Kd.R k36 36 ((w37.setCell ⟨gb619, 0, none⟩ (.int .i64 t616)).setCell ⟨gb619, 1, none⟩ (.int .i64 t617)) w.heap.size (fun k_ => k_ ≠ gb608 ∧ k_ ≠ gb619) u6 x6_1) := ⟨g159_⟩
           have n1_ : Aside0 (Kd.R (Kd.int .i64) 3 ((w37.setCell ⟨gb619, 0, none⟩ (.int .i64 t616)).setCell ⟨gb619, 1, none⟩ (.int .i64 t617)) w.heap.size (fun _ => True) (.slice (some ad612) t604.length co33) t604) := ⟨g160_⟩
           have n2_ : Aside0 (((w37.setCell ⟨gb619, 0, none⟩ (.int .i64 t616)).setCell ⟨gb619, 1, none⟩ (.int .i64 t617)).heap[gb599]? = some (.cells #[.slice (some ad607) l0_0.length c0_0, .slice (some ad613) l0_1.length c0_1] 26 (0, 0))) := ⟨g161_⟩
           have n3_ : Aside0 (((w37.setCell ⟨gb619, 0, none⟩ (.int .i64 t616)).setCell ⟨gb619, 1, none⟩ (.int .i64 t617)).heap[gb608]? = some (.cells #[.int .i64 x609000_2, .int .i64 x609001_2] 36 (0, 0))) := ⟨g162_⟩
           have n4_ : Aside0 (((w37.setCell ⟨gb619, 0, none⟩ (.int .i64 t616)).setCell ⟨gb619, 1, none⟩ (.int .i64 t617)).heap[gb619]? = some (.cells #[.int .i64 t616, .int .i64 t617] 36 (0, 0))) := ⟨g163_⟩
           have n5_ : Aside0 (Below w.heap.size w ((w37.setCell ⟨gb619, 0, none⟩ (.int .i64 t616)).setCell ⟨gb619, 1, none⟩ (.int .i64 t617))) := ⟨qz0_⟩
           (try clear HO_6)
           (try clear HO_7)
           (try clear BK599)
           (try clear BK608)
           (try clear BK619)
           (try clear HB)
           generalize ((w37.setCell ⟨gb619, 0, none⟩ (.int .i64 t616)).setCell ⟨gb619, 1, none⟩ (.int .i64 t617)) = w40 at n0_ n1_ n2_ n3_ n4_ n5_ ⊢
           have HO_6 := n0_
           have HO_7 := n1_
           have BK599 := n2_
           have BK608 := n3_
           have BK619 := n4_
           have HB := n5_
           clear n0_ n1_ n2_ n3_ n4_ n5_
           replace HO_6 := Aside0.mk (Kd.R_drew HO_6.out)
           replace HO_7 := Aside0.mk (Kd.R_drew HO_7.out)
           replace BK599 := Aside0.mk (blk_drew BK599.out)
           replace BK608 := Aside0.mk (blk_drew BK608.out)
           replace BK619 := Aside0.mk (blk_drew BK619.out)
           replace HB := Aside0.mk (below_drew1 HB.out)
           have p620 : 0 ≤ (x10_2 : Int) := of_decide_eq_true (g1_)
           have q620 : x10_2 < (l1.length : Int) := of_decide_eq_true (g1_)
           obtain ⟨ad620, e620, hx620_0, hx620_1⟩ := at_T36 HR1.out x10_2 p620 q620
           have hw620_1 := hx620_1
           have hw620_0 := hx620_0
           cases e620
           replace hx620_0 := cl_ HB hx620_0
           replace hx620_1 := cl_ HB hx620_1
           replace p620 := eq_true p620
           replace q620 := eq_true q620
           refine start_ (n := 12) (S := fun w' => w'.cell? ⟨gb619, 0, none⟩ = some (.int .i64 t616) ∧ w'.cell? ⟨gb619, 1, none⟩ = some (.int .i64 t617) ∧ w'.cell? (ad620.add ((x10_2).toNat * 2)) = some (.int .i64 ((rd_T36 l1 x10_2).f0)) ∧ w'.cell? ⟨(ad620.add ((x10_2).toNat * 2)).block, (ad620.add ((x10_2).toNat * 2)).off + 1, none⟩ = some (.int .i64 ((rd_T36 l1 x10_2).f1))) (ds := []) (tl_ 12 0) (g0_) rfl (g0_) ⟨(blk_cell BK619.out 0).trans rfl, (blk_cell BK619.out 1).trans rfl, ((cl_ HB hw620_0).trans rfl), ((cl_ HB hw620_1).trans rfl)⟩ (fun hHeld => ?_); refine with_tabW spec_GetsOf.tab14 spec_GetsOf.bits14 (fun HT_ HW_ => ?_)
           generalize w40.drew = w41 at HO_6 HO_7 BK599 BK608 BK619 HB hx620_0 hx620_1 hHeld ⊢
           refine pw_ 0 65 (tl_ 12 1) rfl rfl ?_
           refine pw_ 1 66 (tl_ 12 3) rfl rfl ?_
           refine pw_ 2 67 (tl_ 12 7) rfl rfl ?_
           refine tk3_ 3 68 (tl_ 12 15) rfl rfl hHeld ?_
           refine tk3_ 4 69 (tl_ 12 31) rfl rfl hHeld ?_
           refine join_ (σ := Nat) 2 (tl_ 12 1023) (fun s_ => [(70, .tuple #[.agg #[.int .i64 t621, .int .i64 t622], .bool true]), (13, .pointer (some ⟨s_, 0, none⟩)), (64, .tuple #[.agg #[.int .i64 t621, .int .i64 t622], .bool true]), (71, .agg #[.int .i64 t621, .int .i64 t622]), (72, .bool true)]) (fun s_ w' => (w'.cell? ⟨gb619, 0, none⟩ = some (.int .i64 t616) ∧ w'.cell? ⟨gb619, 1, none⟩ = some (.int .i64 t617) ∧ w'.cell? (ad620.add ((x10_2).toNat * 2)) = some (.int .i64 ((rd_T36 l1 x10_2).f0)) ∧ w'.cell? ⟨(ad620.add ((x10_2).toNat * 2)).block, (ad620.add ((x10_2).toNat * 2)).off + 1, none⟩ = some (.int .i64 ((rd_T36 l1 x10_2).f1))) ∧ (Kd.R k36 36 w' w.heap.size (fun k_ => k_ ≠ gb608 ∧ k_ ≠ gb619 ∧ k_ ≠ s_) u6 x6_1) ∧ (Kd.R (Kd.int .i64) 3 w' w.heap.size (fun _ => True) (.slice (some ad612) t604.length co33) t604) ∧ (w'.heap[gb599]? = some (.cells #[.slice (some ad607) l0_0.length c0_0, .slice (some ad613) l0_1.length c0_1] 26 (0, 0))) ∧ (w'.heap[gb608]? = some (.cells #[.int .i64 x609000_2, .int .i64 x609001_2] 36 (0, 0))) ∧ (w'.heap[gb619]? = some (.cells #[.int .i64 t616, .int .i64 t617] 36 (0, 0))) ∧ (w'.heap[s_]? = some (.cells #[.int .i64 0, .int .i64 0] 36 (0, 0))) ∧ (w.heap.size ≤ s_) ∧ (w.heap.size ≤ s_) ∧ (gb599 ≠ s_) ∧ (s_ ≠ gb599) ∧ (gb608 ≠ s_) ∧ (s_ ≠ gb608) ∧ (gb619 ≠ s_) ∧ (s_ ≠ gb619) ∧ (Below w.heap.size w w')) ?_ ?_
           rotate_left
           ·intro hCont
            refine two_ (i := 5) (j := 9) (Ni := some 70) (Nj := some 13) (tl_ 12 63) (tl_ 12 543) rfl rfl rfl rfl (two_of HT_.out (g0_)) (by decide) (by decide) (fun K hK => ?_) (fun K hK => ?_)
            ·skip
             refine goes_ Try.func75 (g0_) rfl #[.agg #[.int .i64 ((rd_T36 l1 x10_2).f0), .int .i64 ((rd_T36 l1 x10_2).f1)], .agg #[.int .i64 t616, .int .i64 t617]] (by rfl) rfl rfl (g2_) ?_
             with_reducible refine (spec_TimesOf.calls k2 ((rd_T36 l1 x10_2).f0) ((rd_T36 l1 x10_2).f1) t616 t617 t621 t622 true _ A29.out).mono ?_
             rintro e w42 ⟨rfl, hb⟩
             refine ⟨_, rfl, ?_⟩
             replace HO_6 := Aside0.mk (Kd.R_below (uf1_ HO_6) hb)
             replace HO_7 := Aside0.mk (Kd.R_below (uf1_ HO_7) hb)
             replace BK599 := bb_ BK599 hb
             replace BK608 := bb_ BK608 hb
             replace BK619 := bb_ BK619 hb
             replace HB := Aside0.mk (below_step (qz0_) hb)
             (try clear hb)
             (try clear hk hi)
             refine hK.out _ _ ⟨(blk_cell BK619.out 0).trans rfl, (blk_cell BK619.out 1).trans rfl, ((cl_ HB hw620_0).trans rfl), ((cl_ HB hw620_1).trans rfl)⟩ (fun hHeld => ?_)
             clear hK K
             refine nm_ ?_
             refine pw_ 6 64 (tl_ 12 127) rfl rfl ?_
             refine pw_ 7 71 (tl_ 12 255) rfl rfl ?_
             refine pw_ 8 72 (tl_ 12 511) rfl rfl ?_
             refine one_ (i := 9) (N := some 13) (tl_ 12 1023) rfl rfl (one_of HT_.out (g0_)) (by decide) (fun K hK => ?_)
             refine bs_ (N := 13) #[.int .i64 0, .int .i64 0] 36 ?_
             intro gb624 hg w43 hbox hb
             replace HO_6 := Aside0.mk (Kd.R_below (Kd.R_elderB (uf1_ HO_6) gb624 (Nat.le_of_eq hg.symm)) hb)
             replace HO_7 := Aside0.mk (Kd.R_below (uf1_ HO_7) hb)
             have BK624 := Aside0.mk (hbox)
             have GW624 := Aside0.mk ((g6_ : w.heap.size ≤ gb624))
             have GE624 := Aside0.mk ((g6_ : w.heap.size ≤ gb624))
             replace HB := Aside0.mk (below_step (qz0_) hb)
             have NB599_624 := Aside0.mk ((g25_ : gb599 ≠ gb624))
             have NB624_599 := Aside0.mk ((g26_ : gb624 ≠ gb599))
             replace BK599 := bb_ BK599 hb
             have NB608_624 := Aside0.mk ((g27_ : gb608 ≠ gb624))
             have NB624_608 := Aside0.mk ((g28_ : gb624 ≠ gb608))
             replace BK608 := bb_ BK608 hb
             have NB619_624 := Aside0.mk ((g39_ : gb619 ≠ gb624))
             have NB624_619 := Aside0.mk ((g40_ : gb624 ≠ gb619))
             replace BK619 := bb_ BK619 hb
             clear hb hbox hg
             refine hK.out _ _ ⟨(blk_cell BK619.out 0).trans rfl, (blk_cell BK619.out 1).trans rfl, ((cl_ HB hw620_0).trans rfl), ((cl_ HB hw620_1).trans rfl)⟩ (fun hHeld => ?_)
             clear hK K
             refine nm_ ?_
             exact norm_ (g8_) (hCont (gb624) _ ⟨hHeld, (g73_), (uf1_ HO_7), (uf0_ BK599), (uf0_ BK608), (uf0_ BK619), (uf0_ BK624), GW624.out, GE624.out, NB599_624.out, NB624_599.out, NB608_624.out, NB624_608.out, NB619_624.out, NB624_619.out, (qz0_)⟩)
            ·skip
             refine bs_ (N := 13) #[.int .i64 0, .int .i64 0] 36 ?_
             intro gb624 hg w42 hbox hb
             replace HO_6 := Aside0.mk (Kd.R_below (Kd.R_elderB (uf1_ HO_6) gb624 (Nat.le_of_eq hg.symm)) hb)
             replace HO_7 := Aside0.mk (Kd.R_below (uf1_ HO_7) hb)
             have BK624 := Aside0.mk (hbox)
             have GW624 := Aside0.mk ((g6_ : w.heap.size ≤ gb624))
             have GE624 := Aside0.mk ((g6_ : w.heap.size ≤ gb624))
             replace HB := Aside0.mk (below_step (qz0_) hb)
             have NB599_624 := Aside0.mk ((g25_ : gb599 ≠ gb624))
             have NB624_599 := Aside0.mk ((g26_ : gb624 ≠ gb599))
             replace BK599 := bb_ BK599 hb
             have NB608_624 := Aside0.mk ((g27_ : gb608 ≠ gb624))
             have NB624_608 := Aside0.mk ((g28_ : gb624 ≠ gb608))
             replace BK608 := bb_ BK608 hb
             have NB619_624 := Aside0.mk ((g39_ : gb619 ≠ gb624))
             have NB624_619 := Aside0.mk ((g40_ : gb624 ≠ gb619))
             replace BK619 := bb_ BK619 hb
             clear hb hbox hg
             refine hK.out _ _ ⟨(blk_cell BK619.out 0).trans rfl, (blk_cell BK619.out 1).trans rfl, ((cl_ HB hw620_0).trans rfl), ((cl_ HB hw620_1).trans rfl)⟩ (fun hHeld => ?_)
             clear hK K
             refine nm_ ?_
             refine one_ (i := 5) (N := some 70) (tl_ 12 575) rfl rfl (one_of HT_.out (g0_)) (by decide) (fun K hK => ?_)
             refine goes_ Try.func75 (g0_) rfl #[.agg #[.int .i64 ((rd_T36 l1 x10_2).f0), .int .i64 ((rd_T36 l1 x10_2).f1)], .agg #[.int .i64 t616, .int .i64 t617]] (by rfl) rfl rfl (g2_) ?_
             with_reducible refine (spec_TimesOf.calls k2 ((rd_T36 l1 x10_2).f0) ((rd_T36 l1 x10_2).f1) t616 t617 t621 t622 true _ A29.out).mono ?_
             rintro e w43 ⟨rfl, hb⟩
             refine ⟨_, rfl, ?_⟩
             replace HO_6 := Aside0.mk (Kd.R_below (uf1_ HO_6) hb)
             replace HO_7 := Aside0.mk (Kd.R_below (uf1_ HO_7) hb)
             replace BK599 := bb_ BK599 hb
             replace BK608 := bb_ BK608 hb
             replace BK619 := bb_ BK619 hb
             replace BK624 := bb_ BK624 hb
             replace HB := Aside0.mk (below_step (qz0_) hb)
             (try clear hb)
             (try clear hk hi)
             refine hK.out _ _ ⟨(blk_cell BK619.out 0).trans rfl, (blk_cell BK619.out 1).trans rfl, ((cl_ HB hw620_0).trans rfl), ((cl_ HB hw620_1).trans rfl)⟩ (fun hHeld => ?_)
             clear hK K
             refine nm_ ?_
             refine pw_ 6 64 (tl_ 12 639) rfl rfl ?_
             refine pw_ 7 71 (tl_ 12 767) rfl rfl ?_
             refine pw_ 8 72 (tl_ 12 1023) rfl rfl ?_
             exact norm_ (g8_) (hCont (gb624) _ ⟨hHeld, (g73_), (uf1_ HO_7), (uf0_ BK599), (uf0_ BK608), (uf0_ BK619), (uf0_ BK624), GW624.out, GE624.out, NB599_624.out, NB624_599.out, NB608_624.out, NB624_608.out, NB619_624.out, NB624_619.out, (qz0_)⟩)
           rintro gb624 w44 ⟨hS_, h0_, h1_, h2_, h3_, h4_, h5_, h6_, h7_, h8_, h9_, h10_, h11_, h12_, h13_, h14_⟩
           replace HO_6 : Aside0 (Kd.R k36 36 w44 w.heap.size (fun k_ => k_ ≠ gb608 ∧ k_ ≠ gb619 ∧ k_ ≠ gb624) u6 x6_1) := ⟨h0_⟩
           replace HO_7 : Aside0 (Kd.R (Kd.int .i64) 3 w44 w.heap.size (fun _ => True) (.slice (some ad612) t604.length co33) t604) := ⟨h1_⟩
           replace BK599 : Aside0 (w44.heap[gb599]? = some (.cells #[.slice (some ad607) l0_0.length c0_0, .slice (some ad613) l0_1.length c0_1] 26 (0, 0))) := ⟨h2_⟩
           replace BK608 : Aside0 (w44.heap[gb608]? = some (.cells #[.int .i64 x609000_2, .int .i64 x609001_2] 36 (0, 0))) := ⟨h3_⟩
           replace BK619 : Aside0 (w44.heap[gb619]? = some (.cells #[.int .i64 t616, .int .i64 t617] 36 (0, 0))) := ⟨h4_⟩
           have BK624 : Aside0 (w44.heap[gb624]? = some (.cells #[.int .i64 0, .int .i64 0] 36 (0, 0))) := ⟨h5_⟩
           have GW624 : Aside0 (w.heap.size ≤ gb624) := ⟨h6_⟩
           have GE624 : Aside0 (w.heap.size ≤ gb624) := ⟨h7_⟩
           have NB599_624 : Aside0 (gb599 ≠ gb624) := ⟨h8_⟩
           have NB624_599 : Aside0 (gb624 ≠ gb599) := ⟨h9_⟩
           have NB608_624 : Aside0 (gb608 ≠ gb624) := ⟨h10_⟩
           have NB624_608 : Aside0 (gb624 ≠ gb608) := ⟨h11_⟩
           have NB619_624 : Aside0 (gb619 ≠ gb624) := ⟨h12_⟩
           have NB624_619 : Aside0 (gb624 ≠ gb619) := ⟨h13_⟩
           replace HB : Aside0 (Below w.heap.size w w44) := ⟨h14_⟩
           clear h0_ h1_ h2_ h3_ h4_ h5_ h6_ h7_ h8_ h9_ h10_ h11_ h12_ h13_ h14_
           have hHeld : w44.cell? ⟨gb619, 0, none⟩ = some (.int .i64 t616) ∧ w44.cell? ⟨gb619, 1, none⟩ = some (.int .i64 t617) ∧ w44.cell? (ad620.add ((x10_2).toNat * 2)) = some (.int .i64 ((rd_T36 l1 x10_2).f0)) ∧ w44.cell? ⟨(ad620.add ((x10_2).toNat * 2)).block, (ad620.add ((x10_2).toNat * 2)).off + 1, none⟩ = some (.int .i64 ((rd_T36 l1 x10_2).f1)) := hS_
           refine norm_ (a' := ?_) ?_ ?_
           rotate_left
           ·simp only [putAll, Act.put, List.setIfInBounds_toArray, List.set_cons_zero, List.set_cons_succ]
            rfl
           refine one_ (i := 10) (N := none) (tl_ 12 2047) rfl rfl (one_of HT_.out (g0_)) (by decide) (fun K hK => ?_)
           have hs45 : w44.cell? ⟨gb624, 0, none⟩ = some (.int .i64 0) := (blk_cell BK624.out 0).trans rfl
           have hfs45 := blk_frozen BK624.out 0
           have hns45_0 := NB599_624.out
           have hns45_1 := NB608_624.out
           have hns45_2 := NB619_624.out
           have hms45_0 := NB624_599.out
           have hms45_1 := NB624_608.out
           have hms45_2 := NB624_619.out
           have hs46 : w44.cell? ⟨gb624, 1, none⟩ = some (.int .i64 0) := (blk_cell BK624.out 1).trans rfl
           have hfs46 := blk_frozen BK624.out 1
           have hns46_0 := NB599_624.out
           have hns46_1 := NB608_624.out
           have hns46_2 := NB619_624.out
           have hms46_0 := NB624_599.out
           have hms46_1 := NB624_608.out
           have hms46_2 := NB624_619.out
           refine skip_ (w1 := ?_) (by rfl) rfl ?_ ?_
           rotate_left
           ·go_simp
            rfl
           refine hK.out _ _ ⟨(cf_ NB619_624 ((cf_ NB619_624 (hHeld.1)))), (cf_ NB619_624 ((cf_ NB619_624 (hHeld.2.1)))), ((cell_far (p := ⟨gb624, _, none⟩) (by first | exact Nat.ne_of_lt (Nat.lt_of_lt_of_le (by have := World.block_lt_of_cell? _ _ hw620_0; first | rwa [add_block] at this | exact this) GW624.out) | (rw [add_block]; exact Nat.ne_of_lt (Nat.lt_of_lt_of_le (by have := World.block_lt_of_cell? _ _ hw620_0; first | rwa [add_block] at this | exact this) GW624.out)) | (show (Addr.add _ _).block ≠ _; rw [add_block]; exact Nat.ne_of_lt (Nat.lt_of_lt_of_le (by have := World.block_lt_of_cell? _ _ hw620_0; first | rwa [add_block] at this | exact this) GW624.out)) | (dsimp only; exact Nat.ne_of_lt (Nat.lt_of_lt_of_le (by have := World.block_lt_of_cell? _ _ hw620_0; first | rwa [add_block] at this | exact this) GW624.out))) _).trans (((cell_far (p := ⟨gb624, _, none⟩) (by first | exact Nat.ne_of_lt (Nat.lt_of_lt_of_le (by have := World.block_lt_of_cell? _ _ hw620_0; first | rwa [add_block] at this | exact this) GW624.out) | (rw [add_block]; exact Nat.ne_of_lt (Nat.lt_of_lt_of_le (by have := World.block_lt_of_cell? _ _ hw620_0; first | rwa [add_block] at this | exact this) GW624.out)) | (show (Addr.add _ _).block ≠ _; rw [add_block]; exact Nat.ne_of_lt (Nat.lt_of_lt_of_le (by have := World.block_lt_of_cell? _ _ hw620_0; first | rwa [add_block] at this | exact this) GW624.out)) | (dsimp only; exact Nat.ne_of_lt (Nat.lt_of_lt_of_le (by have := World.block_lt_of_cell? _ _ hw620_0; first | rwa [add_block] at this | exact this) GW624.out))) _).trans (hHeld.2.2.1)))), ((cell_far (p := ⟨gb624, _, none⟩) (by first | exact Nat.ne_of_lt (Nat.lt_of_lt_of_le (by have := World.block_lt_of_cell? _ _ hw620_1; first | rwa [add_block] at this | exact this) GW624.out) | (rw [add_block]; exact Nat.ne_of_lt (Nat.lt_of_lt_of_le (by have := World.block_lt_of_cell? _ _ hw620_1; first | rwa [add_block] at this | exact this) GW624.out)) | (show (Addr.add _ _).block ≠ _; rw [add_block]; exact Nat.ne_of_lt (Nat.lt_of_lt_of_le (by have := World.block_lt_of_cell? _ _ hw620_1; first | rwa [add_block] at this | exact this) GW624.out)) | (dsimp only; exact Nat.ne_of_lt (Nat.lt_of_lt_of_le (by have := World.block_lt_of_cell? _ _ hw620_1; first | rwa [add_block] at this | exact this) GW624.out))) _).trans (((cell_far (p := ⟨gb624, _, none⟩) (by first | exact Nat.ne_of_lt (Nat.lt_of_lt_of_le (by have := World.block_lt_of_cell? _ _ hw620_1; first | rwa [add_block] at this | exact this) GW624.out) | (rw [add_block]; exact Nat.ne_of_lt (Nat.lt_of_lt_of_le (by have := World.block_lt_of_cell? _ _ hw620_1; first | rwa [add_block] at this | exact this) GW624.out)) | (show (Addr.add _ _).block ≠ _; rw [add_block]; exact Nat.ne_of_lt (Nat.lt_of_lt_of_le (by have := World.block_lt_of_cell? _ _ hw620_1; first | rwa [add_block] at this | exact this) GW624.out)) | (dsimp only; exact Nat.ne_of_lt (Nat.lt_of_lt_of_le (by have := World.block_lt_of_cell? _ _ hw620_1; first | rwa [add_block] at this | exact this) GW624.out))) _).trans (hHeld.2.2.2))))⟩ (fun hHeld => ?_)
           clear hK K
           refine pw_ 11 14 (tl_ 12 4095) rfl rfl ?_
           refine done_ (done_of HT_.out (g0_)) ?_
           have hnb47 := NB608_599.out
           have hnc47 := NB599_608.out
           have hnb48 := NB608_619.out
           have hnc48 := NB619_608.out
           have hnb49 := NB608_624.out
           have hnc49 := NB624_608.out
           obtain ⟨hcz50_0, hcz50_1, hfz50_0, hfz50_1⟩ := blk2_ BK608
           have hnb51 := NB624_599.out
           have hnc51 := NB599_624.out
           have hnb52 := NB624_619.out
           have hnc52 := NB619_624.out
           obtain ⟨hcz53_0, hcz53_1, hfz53_0, hfz53_1⟩ := blk2_ BK624
           try go_wp2_with (first | ((with_reducible refine gate_callee (f := 76) rfl ?_); refine goesL_ (some 76) rfl rfl Try.func76 k_ rfl #[.agg #[.int .i64 x609000_2, .int .i64 x609001_2], .agg #[.int .i64 t621, .int .i64 t622]] rfl (g2_) ?_; (with_reducible refine (spec_PlusOf.calls k2 x609000_2 x609001_2 t621 t622 t625 t626 true _ A30.out).mono ?_); rintro e w54 ⟨rfl, hb⟩; refine ⟨_, rfl, ?_⟩; replace HO_6 := Aside0.mk (Kd.R_below (g164_) hb); replace HO_7 := Aside0.mk (Kd.R_below (g165_) hb); replace BK599 := Aside0.mk (blk_below (g := gb599) (o := .cells #[.slice (some ad607) l0_0.length c0_0, .slice (some ad613) l0_1.length c0_1] 26 (0, 0)) (g166_) hb); replace BK608 := Aside0.mk (blk_below (g := gb608) (o := .cells #[.int .i64 x609000_2, .int .i64 x609001_2] 36 (0, 0)) (g167_) hb); replace BK619 := Aside0.mk (blk_below (g := gb619) (o := .cells #[.int .i64 t616, .int .i64 t617] 36 (0, 0)) (g168_) hb); replace BK624 := Aside0.mk (blk_below (g := gb624) (o := .cells #[.int .i64 t621, .int .i64 t622] 36 (0, 0)) (g169_) hb); replace HB := Aside0.mk (below_step (qz0_) hb); (try clear hb); (try clear hk hi)) | ((with_reducible refine gate_dst (N := 15) rfl ?_); refine bx_ (N := 15) #[.int .i64 0, .int .i64 0] 36 ?_; intro gb628 hg w55 hbox hb; replace HO_6 := Aside0.mk (Kd.R_below (Kd.R_elderB (uf1_ HO_6) gb628 (Nat.le_of_eq hg.symm)) hb); replace HO_7 := Aside0.mk (Kd.R_below (uf1_ HO_7) hb); have BK628 := Aside0.mk (hbox); have GW628 := Aside0.mk ((g6_ : w.heap.size ≤ gb628)); have GE628 := Aside0.mk ((g6_ : w.heap.size ≤ gb628)); replace HB := Aside0.mk (below_step (qz0_) hb); have NB599_628 := Aside0.mk ((g25_ : gb599 ≠ gb628)); have NB628_599 := Aside0.mk ((g26_ : gb628 ≠ gb599)); replace BK599 := bb_ BK599 hb; have NB608_628 := Aside0.mk ((g27_ : gb608 ≠ gb628)); have NB628_608 := Aside0.mk ((g28_ : gb628 ≠ gb608)); replace BK608 := bb_ BK608 hb; have NB619_628 := Aside0.mk ((g39_ : gb619 ≠ gb628)); have NB628_619 := Aside0.mk ((g40_ : gb628 ≠ gb619)); replace BK619 := bb_ BK619 hb; have NB624_628 := Aside0.mk ((g170_ : gb624 ≠ gb628)); have NB628_624 := Aside0.mk ((g171_ : gb628 ≠ gb624)); replace BK624 := bb_ BK624 hb; clear hb hbox hg; have hnb56 := NB628_599.out; have hnc56 := NB599_628.out; have hnb57 := NB628_608.out; have hnc57 := NB608_628.out; have hnb58 := NB628_619.out; have hnc58 := NB619_628.out; have hnb59 := NB628_624.out; have hnc59 := NB624_628.out; obtain ⟨hcz60_0, hcz60_1, hfz60_0, hfz60_1⟩ := blk2_ BK628; obtain ⟨hcz61_0, hcz61_1, hfz61_0, hfz61_1⟩ := blk2_ BK608))
           go_roundg k2
           case measure => have := HK1.out; have := HK2.out; omega
           case rel => exact ⟨(wrap64 (x10_2 + 1)), (t625), (t626), (g3_), H', ⟨g34_⟩, ⟨by (with_reducible repeat (first | apply Kd.R_alloc | apply Kd.R_drewN | apply Kd.R_drew)); exact Kd.R_mono (Kd.R_far (p := ⟨gb608, 1, none⟩) (Kd.R_far (p := ⟨gb608, 0, none⟩) (Kd.R_far (p := ⟨gb628, 1, none⟩) (Kd.R_far (p := ⟨gb628, 0, none⟩) (Kd.R_mono (Kd.R_mono HO_6.out (fun k_ hk => (⟨hk, hk.2⟩ : _ ∧ k_ ≠ gb628))) (fun k_ hk => (⟨hk, hk.1.1.1⟩ : _ ∧ k_ ≠ gb608))) (fun _ hk => hk.1.2) (.int .i64 t625)) (fun _ hk => hk.1.2) (.int .i64 t626)) (fun _ hk => hk.2) (.int .i64 t625)) (fun _ hk => hk.2) (.int .i64 t626)) (fun _ hk => hk.1.1.1.1)⟩, ⟨by (with_reducible repeat (first | apply Kd.R_alloc | apply Kd.R_drewN | apply Kd.R_drew)); exact Kd.R_mono (Kd.R_far (p := ⟨gb608, 1, none⟩) (Kd.R_far (p := ⟨gb608, 0, none⟩) (Kd.R_far (p := ⟨gb628, 1, none⟩) (Kd.R_far (p := ⟨gb628, 0, none⟩) (Kd.R_types (Kd.R_types HO_7.out BK628.out (by decide)) BK608.out (by decide)) (fun _ hk => hk.1.2) (.int .i64 t625)) (fun _ hk => hk.1.2) (.int .i64 t626)) (fun _ hk => hk.2) (.int .i64 t625)) (fun _ hk => hk.2) (.int .i64 t626)) (fun _ hk => trivial)⟩, ⟨by (with_reducible repeat (first | refine blk_drewN ?_ _ | refine blk_drew ?_ | refine blk_alloc ?_ _)); refine blk_far ?_ NB599_608.out _; (with_reducible repeat (first | refine blk_drewN ?_ _ | refine blk_drew ?_ | refine blk_alloc ?_ _)); refine blk_far ?_ NB599_608.out _; (with_reducible repeat (first | refine blk_drewN ?_ _ | refine blk_drew ?_ | refine blk_alloc ?_ _)); refine blk_far ?_ NB599_628.out _; (with_reducible repeat (first | refine blk_drewN ?_ _ | refine blk_drew ?_ | refine blk_alloc ?_ _)); refine blk_far ?_ NB599_628.out _; (with_reducible repeat (first | refine blk_drewN ?_ _ | refine blk_drew ?_ | refine blk_alloc ?_ _)); exact BK599.out⟩, ⟨by (with_reducible repeat (first | refine blk_drewN ?_ _ | refine blk_drew ?_ | refine blk_alloc ?_ _)); refine blk_put (cs := #[.int .i64 t625, .int .i64 x609001_2]) ?_ 1 _ rfl; (with_reducible repeat (first | refine blk_drewN ?_ _ | refine blk_drew ?_ | refine blk_alloc ?_ _)); refine blk_put (cs := #[.int .i64 x609000_2, .int .i64 x609001_2]) ?_ 0 _ rfl; (with_reducible repeat (first | refine blk_drewN ?_ _ | refine blk_drew ?_ | refine blk_alloc ?_ _)); refine blk_far ?_ NB608_628.out _; (with_reducible repeat (first | refine blk_drewN ?_ _ | refine blk_drew ?_ | refine blk_alloc ?_ _)); refine blk_far ?_ NB608_628.out _; (with_reducible repeat (first | refine blk_drewN ?_ _ | refine blk_drew ?_ | refine blk_alloc ?_ _)); exact BK608.out⟩, ⟨qz0_⟩⟩
          ·replace c32 := Bool.eq_false_iff.mpr c32
           subst c32
           replace H := ifn_ H
           obtain ⟨y629, hy629⟩ : ∃ y_ : List (S36), y_ = (([] : List (S36))) := ⟨_, rfl⟩
           replace H : (some (y629, false)) = some (r1, r2) := by first | (rw [hy629]; with_reducible exact H) | (have H2_ := (Option.bind_some _ _).symm.trans H; rw [hy629]; with_reducible exact H2_) | (have H2_ := (Option.bind_some _ _).symm.trans H; with_reducible exact H2_) | with_reducible exact H | (rw [hy629]; exact H) | exact H
           have Ny629 := Aside0.mk hy629
           clear hy629
           simp only [Option.some.injEq, Prod.mk.injEq] at H
           obtain ⟨rfl, rfl⟩ := H
           obtain ⟨Ao62, co62, eo62⟩ := Kd.R_slice HO_7.out
           subst eo62
           have p612 : 0 ≤ (x10_2 : Int) := of_decide_eq_true (g1_)
           have q612 : x10_2 < (t604.length : Int) := of_decide_eq_true (g1_)
           obtain ⟨ad612, e612, hx612_0⟩ := Kd.at_int (Kd.R_reads' HO_7.out).2.2 x10_2 p612 q612
           cases e612
           replace p612 := eq_true p612
           replace q612 := eq_true q612
           try go_wp2
           replace HO_6 := Aside0.mk (Kd.R_drew HO_6.out)
           replace HO_7 := Aside0.mk (Kd.R_drew HO_7.out)
           replace BK599 := Aside0.mk (blk_drew BK599.out)
           replace BK608 := Aside0.mk (blk_drew BK608.out)
           replace HB := Aside0.mk (below_drew1 HB.out)
           have p613 : 0 ≤ (x10_2 : Int) := of_decide_eq_true (g1_)
           have q613 : x10_2 < (l0_1.length : Int) := of_decide_eq_true (g1_)
           obtain ⟨ad613, A613_0, c613_0, e613, hx613_0, hl613_0, hi613_0⟩ := at_L2 HR0_1.out x10_2 p613 q613
           have hw613_0 := hx613_0
           cases e613
           replace hx613_0 := cl_ HB hx613_0
           have HR613_0 := Aside0.mk hi613_0
           have HC613_0 := Aside0.mk hl613_0
           clear hi613_0 hl613_0
           replace p613 := eq_true p613
           replace q613 := eq_true q613
           have p614 : 0 ≤ (x8_1 : Int) := of_decide_eq_true (g1_)
           have q614 : x8_1 < ((rd_L2 l0_1 x10_2).length : Int) := of_decide_eq_true (g1_)
           obtain ⟨ad614, e614, hx614_0⟩ := Kd.at_int HR613_0.out x8_1 p614 q614
           have hw614_0 := hx614_0
           cases e614
           replace hx614_0 := cl_ HB hx614_0
           replace p614 := eq_true p614
           replace q614 := eq_true q614
           have p615 : 0 ≤ (x10_2 : Int) := of_decide_eq_true (g1_)
           have q615 : x10_2 < (t604.length : Int) := of_decide_eq_true (g1_)
           obtain ⟨ad615, e615, hx615_0⟩ := Kd.at_int (Kd.R_reads' HO_7.out).2.2 x10_2 p615 q615
           obtain rfl : ad612 = ad615 := (by injection e615)
           replace p615 := eq_true p615
           replace q615 := eq_true q615
           refine start_ (n := 19) (S := fun w' => w'.cell? ⟨gb599, 0, none⟩ = some (.slice (some ad607) l0_0.length c0_0) ∧ w'.cell? ⟨gb599, 1, none⟩ = some (.slice (some ad613) l0_1.length c0_1) ∧ w'.cell? (ad613.add (x10_2).toNat) = some (.slice (some ad614) (rd_L2 l0_1 x10_2).length c613_0) ∧ w'.cell? (ad614.add (x8_1).toNat) = some (.int .i64 (rd (rd_L2 l0_1 x10_2) x8_1)) ∧ w'.cell? (ad612.add (x10_2).toNat) = some (.int .i64 (rd t604 x10_2))) (ds := []) (tl_ 19 0) (g0_) rfl (g0_) ⟨(blk_cell BK599.out 0).trans rfl, (blk_cell BK599.out 1).trans rfl, ((cl_ HB hw613_0).trans rfl), ((cl_ HB hw614_0).trans rfl), hx615_0⟩ (fun hHeld => ?_); refine with_tabW spec_GetsOf.tab13 spec_GetsOf.bits13 (fun HT_ HW_ => ?_)
           generalize wr.drew = w63 at HO_6 HO_7 BK599 BK608 HB HR613_0 hx613_0 hx614_0 hx615_0 hHeld ⊢
           refine pw_ 0 49 (tl_ 19 1) rfl rfl ?_
           refine pw_ 2 51 (tl_ 19 5) rfl rfl ?_
           refine pw_ 5 54 (tl_ 19 37) rfl rfl ?_
           refine pw_ 8 57 (tl_ 19 293) rfl rfl ?_
           refine pw_ 9 58 (tl_ 19 805) rfl rfl ?_
           refine pw_ 10 59 (tl_ 19 1829) rfl rfl ?_
           refine tk5_ 1 50 (tl_ 19 1831) rfl rfl hHeld ?_
           refine pw_ 3 52 (tl_ 19 1839) rfl rfl ?_
           refine tk5_ 4 53 (tl_ 19 1855) rfl rfl hHeld ?_
           refine pw_ 6 55 (tl_ 19 1919) rfl rfl ?_
           refine tk5_ 7 56 (tl_ 19 2047) rfl rfl hHeld ?_
           refine tk5_ 11 60 (tl_ 19 4095) rfl rfl hHeld ?_
           refine join_ (σ := Nat) 2 (tl_ 19 131071) (fun s_ => [(61, .tuple #[.agg #[.int .i64 t616, .int .i64 t617], .bool t618]), (11, .pointer (some ⟨s_, 0, none⟩)), (48, .tuple #[.agg #[.int .i64 t616, .int .i64 t617], .bool t618]), (62, .agg #[.int .i64 t616, .int .i64 t617]), (63, .bool t618)]) (fun s_ w' => (w'.cell? ⟨gb599, 0, none⟩ = some (.slice (some ad607) l0_0.length c0_0) ∧ w'.cell? ⟨gb599, 1, none⟩ = some (.slice (some ad613) l0_1.length c0_1) ∧ w'.cell? (ad613.add (x10_2).toNat) = some (.slice (some ad614) (rd_L2 l0_1 x10_2).length c613_0) ∧ w'.cell? (ad614.add (x8_1).toNat) = some (.int .i64 (rd (rd_L2 l0_1 x10_2) x8_1)) ∧ w'.cell? (ad612.add (x10_2).toNat) = some (.int .i64 (rd t604 x10_2))) ∧ (Kd.R k36 36 w' w.heap.size (fun k_ => k_ ≠ gb608 ∧ k_ ≠ s_) u6 x6_1) ∧ (Kd.R (Kd.int .i64) 3 w' w.heap.size (fun _ => True) (.slice (some ad612) t604.length co62) t604) ∧ (w'.heap[gb599]? = some (.cells #[.slice (some ad607) l0_0.length c0_0, .slice (some ad613) l0_1.length c0_1] 26 (0, 0))) ∧ (w'.heap[gb608]? = some (.cells #[.int .i64 x609000_2, .int .i64 x609001_2] 36 (0, 0))) ∧ (w'.heap[s_]? = some (.cells #[.int .i64 0, .int .i64 0] 36 (0, 0))) ∧ (w.heap.size ≤ s_) ∧ (w.heap.size ≤ s_) ∧ (gb599 ≠ s_) ∧ (s_ ≠ gb599) ∧ (gb608 ≠ s_) ∧ (s_ ≠ gb608) ∧ (Below w.heap.size w w')) ?_ ?_
           rotate_left
           ·intro hCont
            refine two_ (i := 12) (j := 16) (Ni := some 61) (Nj := some 11) (tl_ 19 8191) (tl_ 19 69631) rfl rfl rfl rfl (two_of HT_.out (g0_)) (by decide) (by decide) (fun K hK => ?_) (fun K hK => ?_)
            ·skip
             refine goes_ Try.func74 (g0_) rfl #[.int .i64 (rd (rd_L2 l0_1 x10_2) x8_1), .int .i64 (rd t604 x10_2)] (by rfl) rfl rfl (g2_) ?_
             with_reducible refine (spec_FracOf.calls k2 (rd (rd_L2 l0_1 x10_2) x8_1) (rd t604 x10_2) t616 t617 t618 _ A28.out).mono ?_
             rintro e w64 ⟨rfl, hb⟩
             have HS4_ := (hb.cell (World.block_lt_of_cell? _ _ (hHeld.2.2.2.2))).trans (hHeld.2.2.2.2)
             refine ⟨_, rfl, ?_⟩
             replace HO_6 := Aside0.mk (Kd.R_below (uf1_ HO_6) hb)
             replace HO_7 := Aside0.mk (Kd.R_below (uf1_ HO_7) hb)
             replace BK599 := bb_ BK599 hb
             replace BK608 := bb_ BK608 hb
             replace HB := Aside0.mk (below_step (qz0_) hb)
             (try clear hb)
             (try clear hk hi)
             refine hK.out _ _ ⟨(blk_cell BK599.out 0).trans rfl, (blk_cell BK599.out 1).trans rfl, ((cl_ HB hw613_0).trans rfl), ((cl_ HB hw614_0).trans rfl), HS4_⟩ (fun hHeld => ?_)
             clear hK K
             refine nm_ ?_
             refine pw_ 13 48 (tl_ 19 16383) rfl rfl ?_
             refine pw_ 14 62 (tl_ 19 32767) rfl rfl ?_
             refine pw_ 15 63 (tl_ 19 65535) rfl rfl ?_
             refine one_ (i := 16) (N := some 11) (tl_ 19 131071) rfl rfl (one_of HT_.out (g0_)) (by decide) (fun K hK => ?_)
             refine bs_ (N := 11) #[.int .i64 0, .int .i64 0] 36 ?_
             intro gb619 hg w65 hbox hb
             have HS4_ := (hb.cell (World.block_lt_of_cell? _ _ (hHeld.2.2.2.2))).trans (hHeld.2.2.2.2)
             replace HO_6 := Aside0.mk (Kd.R_below (Kd.R_elderB (uf1_ HO_6) gb619 (Nat.le_of_eq hg.symm)) hb)
             replace HO_7 := Aside0.mk (Kd.R_below (uf1_ HO_7) hb)
             have BK619 := Aside0.mk (hbox)
             have GW619 := Aside0.mk ((g6_ : w.heap.size ≤ gb619))
             have GE619 := Aside0.mk ((g6_ : w.heap.size ≤ gb619))
             replace HB := Aside0.mk (below_step (qz0_) hb)
             have NB599_619 := Aside0.mk ((g25_ : gb599 ≠ gb619))
             have NB619_599 := Aside0.mk ((g26_ : gb619 ≠ gb599))
             replace BK599 := bb_ BK599 hb
             have NB608_619 := Aside0.mk ((g27_ : gb608 ≠ gb619))
             have NB619_608 := Aside0.mk ((g28_ : gb619 ≠ gb608))
             replace BK608 := bb_ BK608 hb
             clear hb hbox hg
             refine hK.out _ _ ⟨(blk_cell BK599.out 0).trans rfl, (blk_cell BK599.out 1).trans rfl, ((cl_ HB hw613_0).trans rfl), ((cl_ HB hw614_0).trans rfl), HS4_⟩ (fun hHeld => ?_)
             clear hK K
             refine nm_ ?_
             exact norm_ (g8_) (hCont (gb619) _ ⟨hHeld, (uf1_ HO_6), (uf1_ HO_7), (uf0_ BK599), (uf0_ BK608), (uf0_ BK619), GW619.out, GE619.out, NB599_619.out, NB619_599.out, NB608_619.out, NB619_608.out, (qz0_)⟩)
            ·skip
             refine bs_ (N := 11) #[.int .i64 0, .int .i64 0] 36 ?_
             intro gb619 hg w64 hbox hb
             have HS4_ := (hb.cell (World.block_lt_of_cell? _ _ (hHeld.2.2.2.2))).trans (hHeld.2.2.2.2)
             replace HO_6 := Aside0.mk (Kd.R_below (Kd.R_elderB (uf1_ HO_6) gb619 (Nat.le_of_eq hg.symm)) hb)
             replace HO_7 := Aside0.mk (Kd.R_below (uf1_ HO_7) hb)
             have BK619 := Aside0.mk (hbox)
             have GW619 := Aside0.mk ((g6_ : w.heap.size ≤ gb619))
             have GE619 := Aside0.mk ((g6_ : w.heap.size ≤ gb619))
             replace HB := Aside0.mk (below_step (qz0_) hb)
             have NB599_619 := Aside0.mk ((g25_ : gb599 ≠ gb619))
             have NB619_599 := Aside0.mk ((g26_ : gb619 ≠ gb599))
             replace BK599 := bb_ BK599 hb
             have NB608_619 := Aside0.mk ((g27_ : gb608 ≠ gb619))
             have NB619_608 := Aside0.mk ((g28_ : gb619 ≠ gb608))
             replace BK608 := bb_ BK608 hb
             clear hb hbox hg
             refine hK.out _ _ ⟨(blk_cell BK599.out 0).trans rfl, (blk_cell BK599.out 1).trans rfl, ((cl_ HB hw613_0).trans rfl), ((cl_ HB hw614_0).trans rfl), HS4_⟩ (fun hHeld => ?_)
             clear hK K
             refine nm_ ?_
             refine one_ (i := 12) (N := some 61) (tl_ 19 73727) rfl rfl (one_of HT_.out (g0_)) (by decide) (fun K hK => ?_)
             refine goes_ Try.func74 (g0_) rfl #[.int .i64 (rd (rd_L2 l0_1 x10_2) x8_1), .int .i64 (rd t604 x10_2)] (by rfl) rfl rfl (g2_) ?_
             with_reducible refine (spec_FracOf.calls k2 (rd (rd_L2 l0_1 x10_2) x8_1) (rd t604 x10_2) t616 t617 t618 _ A28.out).mono ?_
             rintro e w65 ⟨rfl, hb⟩
             have HS4_ := (hb.cell (World.block_lt_of_cell? _ _ (hHeld.2.2.2.2))).trans (hHeld.2.2.2.2)
             refine ⟨_, rfl, ?_⟩
             replace HO_6 := Aside0.mk (Kd.R_below (uf1_ HO_6) hb)
             replace HO_7 := Aside0.mk (Kd.R_below (uf1_ HO_7) hb)
             replace BK599 := bb_ BK599 hb
             replace BK608 := bb_ BK608 hb
             replace BK619 := bb_ BK619 hb
             replace HB := Aside0.mk (below_step (qz0_) hb)
             (try clear hb)
             (try clear hk hi)
             refine hK.out _ _ ⟨(blk_cell BK599.out 0).trans rfl, (blk_cell BK599.out 1).trans rfl, ((cl_ HB hw613_0).trans rfl), ((cl_ HB hw614_0).trans rfl), HS4_⟩ (fun hHeld => ?_)
             clear hK K
             refine nm_ ?_
             refine pw_ 13 48 (tl_ 19 81919) rfl rfl ?_
             refine pw_ 14 62 (tl_ 19 98303) rfl rfl ?_
             refine pw_ 15 63 (tl_ 19 131071) rfl rfl ?_
             exact norm_ (g8_) (hCont (gb619) _ ⟨hHeld, (uf1_ HO_6), (uf1_ HO_7), (uf0_ BK599), (uf0_ BK608), (uf0_ BK619), GW619.out, GE619.out, NB599_619.out, NB619_599.out, NB608_619.out, NB619_608.out, (qz0_)⟩)
           rintro gb619 w66 ⟨hS_, h0_, h1_, h2_, h3_, h4_, h5_, h6_, h7_, h8_, h9_, h10_, h11_⟩
           replace HO_6 : Aside0 (Kd.R k36 36 w66 w.heap.size (fun k_ => k_ ≠ gb608 ∧ k_ ≠ gb619) u6 x6_1) := ⟨h0_⟩
           replace HO_7 : Aside0 (Kd.R (Kd.int .i64) 3 w66 w.heap.size (fun _ => True) (.slice (some ad612) t604.length co62) t604) := ⟨h1_⟩
           replace BK599 : Aside0 (w66.heap[gb599]? = some (.cells #[.slice (some ad607) l0_0.length c0_0, .slice (some ad613) l0_1.length c0_1] 26 (0, 0))) := ⟨h2_⟩
           replace BK608 : Aside0 (w66.heap[gb608]? = some (.cells #[.int .i64 x609000_2, .int .i64 x609001_2] 36 (0, 0))) := ⟨h3_⟩
           have BK619 : Aside0 (w66.heap[gb619]? = some (.cells #[.int .i64 0, .int .i64 0] 36 (0, 0))) := ⟨h4_⟩
           have GW619 : Aside0 (w.heap.size ≤ gb619) := ⟨h5_⟩
           have GE619 : Aside0 (w.heap.size ≤ gb619) := ⟨h6_⟩
           have NB599_619 : Aside0 (gb599 ≠ gb619) := ⟨h7_⟩
           have NB619_599 : Aside0 (gb619 ≠ gb599) := ⟨h8_⟩
           have NB608_619 : Aside0 (gb608 ≠ gb619) := ⟨h9_⟩
           have NB619_608 : Aside0 (gb619 ≠ gb608) := ⟨h10_⟩
           replace HB : Aside0 (Below w.heap.size w w66) := ⟨h11_⟩
           clear h0_ h1_ h2_ h3_ h4_ h5_ h6_ h7_ h8_ h9_ h10_ h11_
           have hHeld : w66.cell? ⟨gb599, 0, none⟩ = some (.slice (some ad607) l0_0.length c0_0) ∧ w66.cell? ⟨gb599, 1, none⟩ = some (.slice (some ad613) l0_1.length c0_1) ∧ w66.cell? (ad613.add (x10_2).toNat) = some (.slice (some ad614) (rd_L2 l0_1 x10_2).length c613_0) ∧ w66.cell? (ad614.add (x8_1).toNat) = some (.int .i64 (rd (rd_L2 l0_1 x10_2) x8_1)) ∧ w66.cell? (ad612.add (x10_2).toNat) = some (.int .i64 (rd t604 x10_2)) := hS_
           refine norm_ (a' := ?_) ?_ ?_
           rotate_left
           ·simp only [putAll, Act.put, List.setIfInBounds_toArray, List.set_cons_zero, List.set_cons_succ]
            rfl
           refine one_ (i := 17) (N := none) (tl_ 19 262143) rfl rfl (one_of HT_.out (g0_)) (by decide) (fun K hK => ?_)
           have hs67 : w66.cell? ⟨gb619, 0, none⟩ = some (.int .i64 0) := (blk_cell BK619.out 0).trans rfl
           have hfs67 := blk_frozen BK619.out 0
           have hns67_0 := NB599_619.out
           have hns67_1 := NB608_619.out
           have hms67_0 := NB619_599.out
           have hms67_1 := NB619_608.out
           have hs68 : w66.cell? ⟨gb619, 1, none⟩ = some (.int .i64 0) := (blk_cell BK619.out 1).trans rfl
           have hfs68 := blk_frozen BK619.out 1
           have hns68_0 := NB599_619.out
           have hns68_1 := NB608_619.out
           have hms68_0 := NB619_599.out
           have hms68_1 := NB619_608.out
           refine skip_ (w1 := ?_) (by rfl) rfl ?_ ?_
           rotate_left
           ·go_simp
            rfl
           refine hK.out _ _ ⟨(cf_ NB599_619 ((cf_ NB599_619 (hHeld.1)))), (cf_ NB599_619 ((cf_ NB599_619 (hHeld.2.1)))), ((cell_far (p := ⟨gb619, _, none⟩) (by first | exact Nat.ne_of_lt (Nat.lt_of_lt_of_le (by have := World.block_lt_of_cell? _ _ hw613_0; first | rwa [add_block] at this | exact this) GW619.out) | (rw [add_block]; exact Nat.ne_of_lt (Nat.lt_of_lt_of_le (by have := World.block_lt_of_cell? _ _ hw613_0; first | rwa [add_block] at this | exact this) GW619.out)) | (show (Addr.add _ _).block ≠ _; rw [add_block]; exact Nat.ne_of_lt (Nat.lt_of_lt_of_le (by have := World.block_lt_of_cell? _ _ hw613_0; first | rwa [add_block] at this | exact this) GW619.out)) | (dsimp only; exact Nat.ne_of_lt (Nat.lt_of_lt_of_le (by have := World.block_lt_of_cell? _ _ hw613_0; first | rwa [add_block] at this | exact this) GW619.out))) _).trans (((cell_far (p := ⟨gb619, _, none⟩) (by first | exact Nat.ne_of_lt (Nat.lt_of_lt_of_le (by have := World.block_lt_of_cell? _ _ hw613_0; first | rwa [add_block] at this | exact this) GW619.out) | (rw [add_block]; exact Nat.ne_of_lt (Nat.lt_of_lt_of_le (by have := World.block_lt_of_cell? _ _ hw613_0; first | rwa [add_block] at this | exact this) GW619.out)) | (show (Addr.add _ _).block ≠ _; rw [add_block]; exact Nat.ne_of_lt (Nat.lt_of_lt_of_le (by have := World.block_lt_of_cell? _ _ hw613_0; first | rwa [add_block] at this | exact this) GW619.out)) | (dsimp only; exact Nat.ne_of_lt (Nat.lt_of_lt_of_le (by have := World.block_lt_of_cell? _ _ hw613_0; first | rwa [add_block] at this | exact this) GW619.out))) _).trans (hHeld.2.2.1)))), ((cell_far (p := ⟨gb619, _, none⟩) (by first | exact Nat.ne_of_lt (Nat.lt_of_lt_of_le (by have := World.block_lt_of_cell? _ _ hw614_0; first | rwa [add_block] at this | exact this) GW619.out) | (rw [add_block]; exact Nat.ne_of_lt (Nat.lt_of_lt_of_le (by have := World.block_lt_of_cell? _ _ hw614_0; first | rwa [add_block] at this | exact this) GW619.out)) | (show (Addr.add _ _).block ≠ _; rw [add_block]; exact Nat.ne_of_lt (Nat.lt_of_lt_of_le (by have := World.block_lt_of_cell? _ _ hw614_0; first | rwa [add_block] at this | exact this) GW619.out)) | (dsimp only; exact Nat.ne_of_lt (Nat.lt_of_lt_of_le (by have := World.block_lt_of_cell? _ _ hw614_0; first | rwa [add_block] at this | exact this) GW619.out))) _).trans (((cell_far (p := ⟨gb619, _, none⟩) (by first | exact Nat.ne_of_lt (Nat.lt_of_lt_of_le (by have := World.block_lt_of_cell? _ _ hw614_0; first | rwa [add_block] at this | exact this) GW619.out) | (rw [add_block]; exact Nat.ne_of_lt (Nat.lt_of_lt_of_le (by have := World.block_lt_of_cell? _ _ hw614_0; first | rwa [add_block] at this | exact this) GW619.out)) | (show (Addr.add _ _).block ≠ _; rw [add_block]; exact Nat.ne_of_lt (Nat.lt_of_lt_of_le (by have := World.block_lt_of_cell? _ _ hw614_0; first | rwa [add_block] at this | exact this) GW619.out)) | (dsimp only; exact Nat.ne_of_lt (Nat.lt_of_lt_of_le (by have := World.block_lt_of_cell? _ _ hw614_0; first | rwa [add_block] at this | exact this) GW619.out))) _).trans (hHeld.2.2.2.1)))), ((cell_far (p := ⟨gb619, _, none⟩) (g72_) _).trans (((cell_far (p := ⟨gb619, _, none⟩) (g72_) _).trans (hHeld.2.2.2.2))))⟩ (fun hHeld => ?_)
           clear hK K
           refine pw_ 18 12 (tl_ 19 524287) rfl rfl ?_
           refine done_ (done_of HT_.out (g0_)) ?_
           try go_wp2
           have n0_ : Aside0 (Kd.R k36 36 ((w66.setCell ⟨gb619, 0, none⟩ (.int .i64 t616)).setCell ⟨gb619, 1, none⟩ (.int .i64 t617)) w.heap.size (fun k_ => k_ ≠ gb608 ∧ k_ ≠ gb619) u6 x6_1) := ⟨g159_⟩
           have n1_ : Aside0 (Kd.R (Kd.int .i64) 3 ((w66.setCell ⟨gb619, 0, none⟩ (.int .i64 t616)).setCell ⟨gb619, 1, none⟩ (.int .i64 t617)) w.heap.size (fun _ => True) (.slice (some ad612) t604.length co62) t604) := ⟨g160_⟩
           have n2_ : Aside0 (((w66.setCell ⟨gb619, 0, none⟩ (.int .i64 t616)).setCell ⟨gb619, 1, none⟩ (.int .i64 t617)).heap[gb599]? = some (.cells #[.slice (some ad607) l0_0.length c0_0, .slice (some ad613) l0_1.length c0_1] 26 (0, 0))) := ⟨g161_⟩
           have n3_ : Aside0 (((w66.setCell ⟨gb619, 0, none⟩ (.int .i64 t616)).setCell ⟨gb619, 1, none⟩ (.int .i64 t617)).heap[gb608]? = some (.cells #[.int .i64 x609000_2, .int .i64 x609001_2] 36 (0, 0))) := ⟨g162_⟩
           have n4_ : Aside0 (((w66.setCell ⟨gb619, 0, none⟩ (.int .i64 t616)).setCell ⟨gb619, 1, none⟩ (.int .i64 t617)).heap[gb619]? = some (.cells #[.int .i64 t616, .int .i64 t617] 36 (0, 0))) := ⟨g163_⟩
           have n5_ : Aside0 (Below w.heap.size w ((w66.setCell ⟨gb619, 0, none⟩ (.int .i64 t616)).setCell ⟨gb619, 1, none⟩ (.int .i64 t617))) := ⟨qz0_⟩
           (try clear HO_6)
           (try clear HO_7)
           (try clear BK599)
           (try clear BK608)
           (try clear BK619)
           (try clear HB)
           generalize ((w66.setCell ⟨gb619, 0, none⟩ (.int .i64 t616)).setCell ⟨gb619, 1, none⟩ (.int .i64 t617)) = w69 at n0_ n1_ n2_ n3_ n4_ n5_ ⊢
           have HO_6 := n0_
           have HO_7 := n1_
           have BK599 := n2_
           have BK608 := n3_
           have BK619 := n4_
           have HB := n5_
           clear n0_ n1_ n2_ n3_ n4_ n5_
           replace HO_6 := Aside0.mk (Kd.R_drew HO_6.out)
           replace HO_7 := Aside0.mk (Kd.R_drew HO_7.out)
           replace BK599 := Aside0.mk (blk_drew BK599.out)
           replace BK608 := Aside0.mk (blk_drew BK608.out)
           replace BK619 := Aside0.mk (blk_drew BK619.out)
           replace HB := Aside0.mk (below_drew1 HB.out)
           have p620 : 0 ≤ (x10_2 : Int) := of_decide_eq_true (g1_)
           have q620 : x10_2 < (l1.length : Int) := of_decide_eq_true (g1_)
           obtain ⟨ad620, e620, hx620_0, hx620_1⟩ := at_T36 HR1.out x10_2 p620 q620
           have hw620_1 := hx620_1
           have hw620_0 := hx620_0
           cases e620
           replace hx620_0 := cl_ HB hx620_0
           replace hx620_1 := cl_ HB hx620_1
           replace p620 := eq_true p620
           replace q620 := eq_true q620
           refine start_ (n := 12) (S := fun w' => w'.cell? ⟨gb619, 0, none⟩ = some (.int .i64 t616) ∧ w'.cell? ⟨gb619, 1, none⟩ = some (.int .i64 t617) ∧ w'.cell? (ad620.add ((x10_2).toNat * 2)) = some (.int .i64 ((rd_T36 l1 x10_2).f0)) ∧ w'.cell? ⟨(ad620.add ((x10_2).toNat * 2)).block, (ad620.add ((x10_2).toNat * 2)).off + 1, none⟩ = some (.int .i64 ((rd_T36 l1 x10_2).f1))) (ds := []) (tl_ 12 0) (g0_) rfl (g0_) ⟨(blk_cell BK619.out 0).trans rfl, (blk_cell BK619.out 1).trans rfl, ((cl_ HB hw620_0).trans rfl), ((cl_ HB hw620_1).trans rfl)⟩ (fun hHeld => ?_); refine with_tabW spec_GetsOf.tab14 spec_GetsOf.bits14 (fun HT_ HW_ => ?_)
           generalize w69.drew = w70 at HO_6 HO_7 BK599 BK608 BK619 HB hx620_0 hx620_1 hHeld ⊢
           refine pw_ 0 65 (tl_ 12 1) rfl rfl ?_
           refine pw_ 1 66 (tl_ 12 3) rfl rfl ?_
           refine pw_ 2 67 (tl_ 12 7) rfl rfl ?_
           refine tk3_ 3 68 (tl_ 12 15) rfl rfl hHeld ?_
           refine tk3_ 4 69 (tl_ 12 31) rfl rfl hHeld ?_
           refine join_ (σ := Nat) 2 (tl_ 12 1023) (fun s_ => [(70, .tuple #[.agg #[.int .i64 t621, .int .i64 t622], .bool true]), (13, .pointer (some ⟨s_, 0, none⟩)), (64, .tuple #[.agg #[.int .i64 t621, .int .i64 t622], .bool true]), (71, .agg #[.int .i64 t621, .int .i64 t622]), (72, .bool true)]) (fun s_ w' => (w'.cell? ⟨gb619, 0, none⟩ = some (.int .i64 t616) ∧ w'.cell? ⟨gb619, 1, none⟩ = some (.int .i64 t617) ∧ w'.cell? (ad620.add ((x10_2).toNat * 2)) = some (.int .i64 ((rd_T36 l1 x10_2).f0)) ∧ w'.cell? ⟨(ad620.add ((x10_2).toNat * 2)).block, (ad620.add ((x10_2).toNat * 2)).off + 1, none⟩ = some (.int .i64 ((rd_T36 l1 x10_2).f1))) ∧ (Kd.R k36 36 w' w.heap.size (fun k_ => k_ ≠ gb608 ∧ k_ ≠ gb619 ∧ k_ ≠ s_) u6 x6_1) ∧ (Kd.R (Kd.int .i64) 3 w' w.heap.size (fun _ => True) (.slice (some ad612) t604.length co62) t604) ∧ (w'.heap[gb599]? = some (.cells #[.slice (some ad607) l0_0.length c0_0, .slice (some ad613) l0_1.length c0_1] 26 (0, 0))) ∧ (w'.heap[gb608]? = some (.cells #[.int .i64 x609000_2, .int .i64 x609001_2] 36 (0, 0))) ∧ (w'.heap[gb619]? = some (.cells #[.int .i64 t616, .int .i64 t617] 36 (0, 0))) ∧ (w'.heap[s_]? = some (.cells #[.int .i64 0, .int .i64 0] 36 (0, 0))) ∧ (w.heap.size ≤ s_) ∧ (w.heap.size ≤ s_) ∧ (gb599 ≠ s_) ∧ (s_ ≠ gb599) ∧ (gb608 ≠ s_) ∧ (s_ ≠ gb608) ∧ (gb619 ≠ s_) ∧ (s_ ≠ gb619) ∧ (Below w.heap.size w w')) ?_ ?_
           rotate_left
           ·intro hCont
            refine two_ (i := 5) (j := 9) (Ni := some 70) (Nj := some 13) (tl_ 12 63) (tl_ 12 543) rfl rfl rfl rfl (two_of HT_.out (g0_)) (by decide) (by decide) (fun K hK => ?_) (fun K hK => ?_)
            ·skip
             refine goes_ Try.func75 (g0_) rfl #[.agg #[.int .i64 ((rd_T36 l1 x10_2).f0), .int .i64 ((rd_T36 l1 x10_2).f1)], .agg #[.int .i64 t616, .int .i64 t617]] (by rfl) rfl rfl (g2_) ?_
             with_reducible refine (spec_TimesOf.calls k2 ((rd_T36 l1 x10_2).f0) ((rd_T36 l1 x10_2).f1) t616 t617 t621 t622 true _ A29.out).mono ?_
             rintro e w71 ⟨rfl, hb⟩
             refine ⟨_, rfl, ?_⟩
             replace HO_6 := Aside0.mk (Kd.R_below (uf1_ HO_6) hb)
             replace HO_7 := Aside0.mk (Kd.R_below (uf1_ HO_7) hb)
             replace BK599 := bb_ BK599 hb
             replace BK608 := bb_ BK608 hb
             replace BK619 := bb_ BK619 hb
             replace HB := Aside0.mk (below_step (qz0_) hb)
             (try clear hb)
             (try clear hk hi)
             refine hK.out _ _ ⟨(blk_cell BK619.out 0).trans rfl, (blk_cell BK619.out 1).trans rfl, ((cl_ HB hw620_0).trans rfl), ((cl_ HB hw620_1).trans rfl)⟩ (fun hHeld => ?_)
             clear hK K
             refine nm_ ?_
             refine pw_ 6 64 (tl_ 12 127) rfl rfl ?_
             refine pw_ 7 71 (tl_ 12 255) rfl rfl ?_
             refine pw_ 8 72 (tl_ 12 511) rfl rfl ?_
             refine one_ (i := 9) (N := some 13) (tl_ 12 1023) rfl rfl (one_of HT_.out (g0_)) (by decide) (fun K hK => ?_)
             refine bs_ (N := 13) #[.int .i64 0, .int .i64 0] 36 ?_
             intro gb624 hg w72 hbox hb
             replace HO_6 := Aside0.mk (Kd.R_below (Kd.R_elderB (uf1_ HO_6) gb624 (Nat.le_of_eq hg.symm)) hb)
             replace HO_7 := Aside0.mk (Kd.R_below (uf1_ HO_7) hb)
             have BK624 := Aside0.mk (hbox)
             have GW624 := Aside0.mk ((g6_ : w.heap.size ≤ gb624))
             have GE624 := Aside0.mk ((g6_ : w.heap.size ≤ gb624))
             replace HB := Aside0.mk (below_step (qz0_) hb)
             have NB599_624 := Aside0.mk ((g25_ : gb599 ≠ gb624))
             have NB624_599 := Aside0.mk ((g26_ : gb624 ≠ gb599))
             replace BK599 := bb_ BK599 hb
             have NB608_624 := Aside0.mk ((g27_ : gb608 ≠ gb624))
             have NB624_608 := Aside0.mk ((g28_ : gb624 ≠ gb608))
             replace BK608 := bb_ BK608 hb
             have NB619_624 := Aside0.mk ((g39_ : gb619 ≠ gb624))
             have NB624_619 := Aside0.mk ((g40_ : gb624 ≠ gb619))
             replace BK619 := bb_ BK619 hb
             clear hb hbox hg
             refine hK.out _ _ ⟨(blk_cell BK619.out 0).trans rfl, (blk_cell BK619.out 1).trans rfl, ((cl_ HB hw620_0).trans rfl), ((cl_ HB hw620_1).trans rfl)⟩ (fun hHeld => ?_)
             clear hK K
             refine nm_ ?_
             exact norm_ (g8_) (hCont (gb624) _ ⟨hHeld, (g73_), (uf1_ HO_7), (uf0_ BK599), (uf0_ BK608), (uf0_ BK619), (uf0_ BK624), GW624.out, GE624.out, NB599_624.out, NB624_599.out, NB608_624.out, NB624_608.out, NB619_624.out, NB624_619.out, (qz0_)⟩)
            ·skip
             refine bs_ (N := 13) #[.int .i64 0, .int .i64 0] 36 ?_
             intro gb624 hg w71 hbox hb
             replace HO_6 := Aside0.mk (Kd.R_below (Kd.R_elderB (uf1_ HO_6) gb624 (Nat.le_of_eq hg.symm)) hb)
             replace HO_7 := Aside0.mk (Kd.R_below (uf1_ HO_7) hb)
             have BK624 := Aside0.mk (hbox)
             have GW624 := Aside0.mk ((g6_ : w.heap.size ≤ gb624))
             have GE624 := Aside0.mk ((g6_ : w.heap.size ≤ gb624))
             replace HB := Aside0.mk (below_step (qz0_) hb)
             have NB599_624 := Aside0.mk ((g25_ : gb599 ≠ gb624))
             have NB624_599 := Aside0.mk ((g26_ : gb624 ≠ gb599))
             replace BK599 := bb_ BK599 hb
             have NB608_624 := Aside0.mk ((g27_ : gb608 ≠ gb624))
             have NB624_608 := Aside0.mk ((g28_ : gb624 ≠ gb608))
             replace BK608 := bb_ BK608 hb
             have NB619_624 := Aside0.mk ((g39_ : gb619 ≠ gb624))
             have NB624_619 := Aside0.mk ((g40_ : gb624 ≠ gb619))
             replace BK619 := bb_ BK619 hb
             clear hb hbox hg
             refine hK.out _ _ ⟨(blk_cell BK619.out 0).trans rfl, (blk_cell BK619.out 1).trans rfl, ((cl_ HB hw620_0).trans rfl), ((cl_ HB hw620_1).trans rfl)⟩ (fun hHeld => ?_)
             clear hK K
             refine nm_ ?_
             refine one_ (i := 5) (N := some 70) (tl_ 12 575) rfl rfl (one_of HT_.out (g0_)) (by decide) (fun K hK => ?_)
             refine goes_ Try.func75 (g0_) rfl #[.agg #[.int .i64 ((rd_T36 l1 x10_2).f0), .int .i64 ((rd_T36 l1 x10_2).f1)], .agg #[.int .i64 t616, .int .i64 t617]] (by rfl) rfl rfl (g2_) ?_
             with_reducible refine (spec_TimesOf.calls k2 ((rd_T36 l1 x10_2).f0) ((rd_T36 l1 x10_2).f1) t616 t617 t621 t622 true _ A29.out).mono ?_
             rintro e w72 ⟨rfl, hb⟩
             refine ⟨_, rfl, ?_⟩
             replace HO_6 := Aside0.mk (Kd.R_below (uf1_ HO_6) hb)
             replace HO_7 := Aside0.mk (Kd.R_below (uf1_ HO_7) hb)
             replace BK599 := bb_ BK599 hb
             replace BK608 := bb_ BK608 hb
             replace BK619 := bb_ BK619 hb
             replace BK624 := bb_ BK624 hb
             replace HB := Aside0.mk (below_step (qz0_) hb)
             (try clear hb)
             (try clear hk hi)
             refine hK.out _ _ ⟨(blk_cell BK619.out 0).trans rfl, (blk_cell BK619.out 1).trans rfl, ((cl_ HB hw620_0).trans rfl), ((cl_ HB hw620_1).trans rfl)⟩ (fun hHeld => ?_)
             clear hK K
             refine nm_ ?_
             refine pw_ 6 64 (tl_ 12 639) rfl rfl ?_
             refine pw_ 7 71 (tl_ 12 767) rfl rfl ?_
             refine pw_ 8 72 (tl_ 12 1023) rfl rfl ?_
             exact norm_ (g8_) (hCont (gb624) _ ⟨hHeld, (g73_), (uf1_ HO_7), (uf0_ BK599), (uf0_ BK608), (uf0_ BK619), (uf0_ BK624), GW624.out, GE624.out, NB599_624.out, NB624_599.out, NB608_624.out, NB624_608.out, NB619_624.out, NB624_619.out, (qz0_)⟩)
           rintro gb624 w73 ⟨hS_, h0_, h1_, h2_, h3_, h4_, h5_, h6_, h7_, h8_, h9_, h10_, h11_, h12_, h13_, h14_⟩
           replace HO_6 : Aside0 (Kd.R k36 36 w73 w.heap.size (fun k_ => k_ ≠ gb608 ∧ k_ ≠ gb619 ∧ k_ ≠ gb624) u6 x6_1) := ⟨h0_⟩
           replace HO_7 : Aside0 (Kd.R (Kd.int .i64) 3 w73 w.heap.size (fun _ => True) (.slice (some ad612) t604.length co62) t604) := ⟨h1_⟩
           replace BK599 : Aside0 (w73.heap[gb599]? = some (.cells #[.slice (some ad607) l0_0.length c0_0, .slice (some ad613) l0_1.length c0_1] 26 (0, 0))) := ⟨h2_⟩
           replace BK608 : Aside0 (w73.heap[gb608]? = some (.cells #[.int .i64 x609000_2, .int .i64 x609001_2] 36 (0, 0))) := ⟨h3_⟩
           replace BK619 : Aside0 (w73.heap[gb619]? = some (.cells #[.int .i64 t616, .int .i64 t617] 36 (0, 0))) := ⟨h4_⟩
           have BK624 : Aside0 (w73.heap[gb624]? = some (.cells #[.int .i64 0, .int .i64 0] 36 (0, 0))) := ⟨h5_⟩
           have GW624 : Aside0 (w.heap.size ≤ gb624) := ⟨h6_⟩
           have GE624 : Aside0 (w.heap.size ≤ gb624) := ⟨h7_⟩
           have NB599_624 : Aside0 (gb599 ≠ gb624) := ⟨h8_⟩
           have NB624_599 : Aside0 (gb624 ≠ gb599) := ⟨h9_⟩
           have NB608_624 : Aside0 (gb608 ≠ gb624) := ⟨h10_⟩
           have NB624_608 : Aside0 (gb624 ≠ gb608) := ⟨h11_⟩
           have NB619_624 : Aside0 (gb619 ≠ gb624) := ⟨h12_⟩
           have NB624_619 : Aside0 (gb624 ≠ gb619) := ⟨h13_⟩
           replace HB : Aside0 (Below w.heap.size w w73) := ⟨h14_⟩
           clear h0_ h1_ h2_ h3_ h4_ h5_ h6_ h7_ h8_ h9_ h10_ h11_ h12_ h13_ h14_
           have hHeld : w73.cell? ⟨gb619, 0, none⟩ = some (.int .i64 t616) ∧ w73.cell? ⟨gb619, 1, none⟩ = some (.int .i64 t617) ∧ w73.cell? (ad620.add ((x10_2).toNat * 2)) = some (.int .i64 ((rd_T36 l1 x10_2).f0)) ∧ w73.cell? ⟨(ad620.add ((x10_2).toNat * 2)).block, (ad620.add ((x10_2).toNat * 2)).off + 1, none⟩ = some (.int .i64 ((rd_T36 l1 x10_2).f1)) := hS_
           refine norm_ (a' := ?_) ?_ ?_
           rotate_left
           ·simp only [putAll, Act.put, List.setIfInBounds_toArray, List.set_cons_zero, List.set_cons_succ]
            rfl
           refine one_ (i := 10) (N := none) (tl_ 12 2047) rfl rfl (one_of HT_.out (g0_)) (by decide) (fun K hK => ?_)
           have hs74 : w73.cell? ⟨gb624, 0, none⟩ = some (.int .i64 0) := (blk_cell BK624.out 0).trans rfl
           have hfs74 := blk_frozen BK624.out 0
           have hns74_0 := NB599_624.out
           have hns74_1 := NB608_624.out
           have hns74_2 := NB619_624.out
           have hms74_0 := NB624_599.out
           have hms74_1 := NB624_608.out
           have hms74_2 := NB624_619.out
           have hs75 : w73.cell? ⟨gb624, 1, none⟩ = some (.int .i64 0) := (blk_cell BK624.out 1).trans rfl
           have hfs75 := blk_frozen BK624.out 1
           have hns75_0 := NB599_624.out
           have hns75_1 := NB608_624.out
           have hns75_2 := NB619_624.out
           have hms75_0 := NB624_599.out
           have hms75_1 := NB624_608.out
           have hms75_2 := NB624_619.out
           refine skip_ (w1 := ?_) (by rfl) rfl ?_ ?_
           rotate_left
           ·go_simp
            rfl
           refine hK.out _ _ ⟨(cf_ NB619_624 ((cf_ NB619_624 (hHeld.1)))), (cf_ NB619_624 ((cf_ NB619_624 (hHeld.2.1)))), ((cell_far (p := ⟨gb624, _, none⟩) (by first | exact Nat.ne_of_lt (Nat.lt_of_lt_of_le (by have := World.block_lt_of_cell? _ _ hw620_0; first | rwa [add_block] at this | exact this) GW624.out) | (rw [add_block]; exact Nat.ne_of_lt (Nat.lt_of_lt_of_le (by have := World.block_lt_of_cell? _ _ hw620_0; first | rwa [add_block] at this | exact this) GW624.out)) | (show (Addr.add _ _).block ≠ _; rw [add_block]; exact Nat.ne_of_lt (Nat.lt_of_lt_of_le (by have := World.block_lt_of_cell? _ _ hw620_0; first | rwa [add_block] at this | exact this) GW624.out)) | (dsimp only; exact Nat.ne_of_lt (Nat.lt_of_lt_of_le (by have := World.block_lt_of_cell? _ _ hw620_0; first | rwa [add_block] at this | exact this) GW624.out))) _).trans (((cell_far (p := ⟨gb624, _, none⟩) (by first | exact Nat.ne_of_lt (Nat.lt_of_lt_of_le (by have := World.block_lt_of_cell? _ _ hw620_0; first | rwa [add_block] at this | exact this) GW624.out) | (rw [add_block]; exact Nat.ne_of_lt (Nat.lt_of_lt_of_le (by have := World.block_lt_of_cell? _ _ hw620_0; first | rwa [add_block] at this | exact this) GW624.out)) | (show (Addr.add _ _).block ≠ _; rw [add_block]; exact Nat.ne_of_lt (Nat.lt_of_lt_of_le (by have := World.block_lt_of_cell? _ _ hw620_0; first | rwa [add_block] at this | exact this) GW624.out)) | (dsimp only; exact Nat.ne_of_lt (Nat.lt_of_lt_of_le (by have := World.block_lt_of_cell? _ _ hw620_0; first | rwa [add_block] at this | exact this) GW624.out))) _).trans (hHeld.2.2.1)))), ((cell_far (p := ⟨gb624, _, none⟩) (by first | exact Nat.ne_of_lt (Nat.lt_of_lt_of_le (by have := World.block_lt_of_cell? _ _ hw620_1; first | rwa [add_block] at this | exact this) GW624.out) | (rw [add_block]; exact Nat.ne_of_lt (Nat.lt_of_lt_of_le (by have := World.block_lt_of_cell? _ _ hw620_1; first | rwa [add_block] at this | exact this) GW624.out)) | (show (Addr.add _ _).block ≠ _; rw [add_block]; exact Nat.ne_of_lt (Nat.lt_of_lt_of_le (by have := World.block_lt_of_cell? _ _ hw620_1; first | rwa [add_block] at this | exact this) GW624.out)) | (dsimp only; exact Nat.ne_of_lt (Nat.lt_of_lt_of_le (by have := World.block_lt_of_cell? _ _ hw620_1; first | rwa [add_block] at this | exact this) GW624.out))) _).trans (((cell_far (p := ⟨gb624, _, none⟩) (by first | exact Nat.ne_of_lt (Nat.lt_of_lt_of_le (by have := World.block_lt_of_cell? _ _ hw620_1; first | rwa [add_block] at this | exact this) GW624.out) | (rw [add_block]; exact Nat.ne_of_lt (Nat.lt_of_lt_of_le (by have := World.block_lt_of_cell? _ _ hw620_1; first | rwa [add_block] at this | exact this) GW624.out)) | (show (Addr.add _ _).block ≠ _; rw [add_block]; exact Nat.ne_of_lt (Nat.lt_of_lt_of_le (by have := World.block_lt_of_cell? _ _ hw620_1; first | rwa [add_block] at this | exact this) GW624.out)) | (dsimp only; exact Nat.ne_of_lt (Nat.lt_of_lt_of_le (by have := World.block_lt_of_cell? _ _ hw620_1; first | rwa [add_block] at this | exact this) GW624.out))) _).trans (hHeld.2.2.2))))⟩ (fun hHeld => ?_)
           clear hK K
           refine pw_ 11 14 (tl_ 12 4095) rfl rfl ?_
           refine done_ (done_of HT_.out (g0_)) ?_
           have hnb76 := NB608_599.out
           have hnc76 := NB599_608.out
           have hnb77 := NB608_619.out
           have hnc77 := NB619_608.out
           have hnb78 := NB608_624.out
           have hnc78 := NB624_608.out
           obtain ⟨hcz79_0, hcz79_1, hfz79_0, hfz79_1⟩ := blk2_ BK608
           have hnb80 := NB624_599.out
           have hnc80 := NB599_624.out
           have hnb81 := NB624_619.out
           have hnc81 := NB619_624.out
           obtain ⟨hcz82_0, hcz82_1, hfz82_0, hfz82_1⟩ := blk2_ BK624
           try go_wp2_with (first | ((with_reducible refine gate_callee (f := 76) rfl ?_); refine goesL_ (some 76) rfl rfl Try.func76 k_ rfl #[.agg #[.int .i64 x609000_2, .int .i64 x609001_2], .agg #[.int .i64 t621, .int .i64 t622]] rfl (g2_) ?_; (with_reducible refine (spec_PlusOf.calls k2 x609000_2 x609001_2 t621 t622 t625 t626 false _ A30.out).mono ?_); rintro e w83 ⟨rfl, hb⟩; refine ⟨_, rfl, ?_⟩; replace HO_6 := Aside0.mk (Kd.R_below (g164_) hb); replace HO_7 := Aside0.mk (Kd.R_below (g165_) hb); replace BK599 := Aside0.mk (blk_below (g := gb599) (o := .cells #[.slice (some ad607) l0_0.length c0_0, .slice (some ad613) l0_1.length c0_1] 26 (0, 0)) (g166_) hb); replace BK608 := Aside0.mk (blk_below (g := gb608) (o := .cells #[.int .i64 x609000_2, .int .i64 x609001_2] 36 (0, 0)) (g167_) hb); replace BK619 := Aside0.mk (blk_below (g := gb619) (o := .cells #[.int .i64 t616, .int .i64 t617] 36 (0, 0)) (g168_) hb); replace BK624 := Aside0.mk (blk_below (g := gb624) (o := .cells #[.int .i64 t621, .int .i64 t622] 36 (0, 0)) (g169_) hb); replace HB := Aside0.mk (below_step (qz0_) hb); (try clear hb); (try clear hk hi)) | ((with_reducible refine gate_dst (N := 15) rfl ?_); refine bx_ (N := 15) #[.int .i64 0, .int .i64 0] 36 ?_; intro gb628 hg w84 hbox hb; replace HO_6 := Aside0.mk (Kd.R_below (Kd.R_elderB (uf1_ HO_6) gb628 (Nat.le_of_eq hg.symm)) hb); replace HO_7 := Aside0.mk (Kd.R_below (uf1_ HO_7) hb); have BK628 := Aside0.mk (hbox); have GW628 := Aside0.mk ((g6_ : w.heap.size ≤ gb628)); have GE628 := Aside0.mk ((g6_ : w.heap.size ≤ gb628)); replace HB := Aside0.mk (below_step (qz0_) hb); have NB599_628 := Aside0.mk ((g25_ : gb599 ≠ gb628)); have NB628_599 := Aside0.mk ((g26_ : gb628 ≠ gb599)); replace BK599 := bb_ BK599 hb; have NB608_628 := Aside0.mk ((g27_ : gb608 ≠ gb628)); have NB628_608 := Aside0.mk ((g28_ : gb628 ≠ gb608)); replace BK608 := bb_ BK608 hb; have NB619_628 := Aside0.mk ((g39_ : gb619 ≠ gb628)); have NB628_619 := Aside0.mk ((g40_ : gb628 ≠ gb619)); replace BK619 := bb_ BK619 hb; have NB624_628 := Aside0.mk ((g170_ : gb624 ≠ gb628)); have NB628_624 := Aside0.mk ((g171_ : gb628 ≠ gb624)); replace BK624 := bb_ BK624 hb; clear hb hbox hg; have hnb85 := NB628_599.out; have hnc85 := NB599_628.out; have hnb86 := NB628_608.out; have hnc86 := NB608_628.out; have hnb87 := NB628_619.out; have hnc87 := NB619_628.out; have hnb88 := NB628_624.out; have hnc88 := NB624_628.out; obtain ⟨hcz89_0, hcz89_1, hfz89_0, hfz89_1⟩ := blk2_ BK628) | ((with_reducible refine gate_dst (N := 85) rfl ?_); refine Kd.R_lit k36 _ 36 ?hg (N := 85) ?hd (xs := ([] : List (S36))) (inner := []) (ok := fun _ => True) (okp := fun _ => True) ?hr ?hp (fun _ hk => hk) trivial (Below.refl _ _) (Nat.le_refl _) (by simp) ?_; (case hd => rfl); (case hg => rfl); (case hr => first | (go_simp; done) | (go_simp; rfl)); (case hp => exact (Reps.none _ _)); intro v630 w90 ho91 hb hg_ hnew_; clear hg_ hnew_; (first | rw [← Ny629.out] at ho91 | (simp only [Int.reduceToNat] at ho91; rw [← Ny629.out] at ho91)); replace HO_7 := Aside0.mk (Kd.R_below (by (with_reducible repeat (first | apply Kd.R_alloc | apply Kd.R_drewN | apply Kd.R_drew)); exact (Kd.R_mono (Kd.R_far (p := ⟨gb628, 1, none⟩) (Kd.R_far (p := ⟨gb628, 0, none⟩) (Kd.R_types HO_7.out BK628.out (by decide)) (fun _ hk => hk.2) (.int .i64 t625)) (fun _ hk => hk.2) (.int .i64 t626)) (fun _ h_ => h_.1))) hb); have HO631 := Aside0.mk (Kd.R_lower (Kd.R_newB (Kd.R_newB (Kd.R_newB (Kd.R_newB (Kd.R_new' ho91 (Kd.R_lt (g101_))) (g := gb608) (o := .cells #[.int .i64 x609000_2, .int .i64 x609001_2] 36 (0, 0)) (g102_)) (g := gb619) (o := .cells #[.int .i64 t616, .int .i64 t617] 36 (0, 0)) (g103_)) (g := gb624) (o := .cells #[.int .i64 t621, .int .i64 t622] 36 (0, 0)) (g104_)) (g := gb628) (o := .cells #[.int .i64 t625, .int .i64 t626] 36 (0, 0)) (g105_)) (below_size (qz0_))); replace HO_6 := Aside0.mk (Kd.R_elder' (g101_) (Kd.R_base ho91) hb); replace BK599 := Aside0.mk (blk_below (g := gb599) (o := .cells #[.slice (some ad607) l0_0.length c0_0, .slice (some ad613) l0_1.length c0_1] 26 (0, 0)) (by (with_reducible repeat (first | refine blk_drewN ?_ _ | refine blk_drew ?_ | refine blk_alloc ?_ _)); refine blk_far ?_ NB599_628.out _; (with_reducible repeat (first | refine blk_drewN ?_ _ | refine blk_drew ?_ | refine blk_alloc ?_ _)); refine blk_far ?_ NB599_628.out _; (with_reducible repeat (first | refine blk_drewN ?_ _ | refine blk_drew ?_ | refine blk_alloc ?_ _)); exact BK599.out) hb); replace BK608 := Aside0.mk (blk_below (g := gb608) (o := .cells #[.int .i64 x609000_2, .int .i64 x609001_2] 36 (0, 0)) (g102_) hb); replace BK619 := Aside0.mk (blk_below (g := gb619) (o := .cells #[.int .i64 t616, .int .i64 t617] 36 (0, 0)) (g103_) hb); replace BK624 := Aside0.mk (blk_below (g := gb624) (o := .cells #[.int .i64 t621, .int .i64 t622] 36 (0, 0)) (g104_) hb); replace BK628 := Aside0.mk (blk_below (g := gb628) (o := .cells #[.int .i64 t625, .int .i64 t626] 36 (0, 0)) (g105_) hb); replace HB := Aside0.mk (below_step (qz0_) hb); clear hb ho91))
           go_ret2
           exact ⟨_, g4_, by (with_reducible repeat (first | apply Kd.R_alloc | apply Kd.R_drewN | apply Kd.R_drew)); exact Kd.R_mono HO631.out (fun _ hk => trivial), qz0_⟩
         ·replace c31 := Bool.eq_false_iff.mpr c31
          subst c31
          replace H := ifn_ H
          obtain ⟨y632, hy632⟩ : ∃ y_ : List (S36), y_ = (([] : List (S36))) := ⟨_, rfl⟩
          replace H : (some (y632, false)) = some (r1, r2) := by first | (rw [hy632]; with_reducible exact H) | (have H2_ := (Option.bind_some _ _).symm.trans H; rw [hy632]; with_reducible exact H2_) | (have H2_ := (Option.bind_some _ _).symm.trans H; with_reducible exact H2_) | with_reducible exact H | (rw [hy632]; exact H) | exact H
          have Ny632 := Aside0.mk hy632
          clear hy632
          simp only [Option.some.injEq, Prod.mk.injEq] at H
          obtain ⟨rfl, rfl⟩ := H
          obtain ⟨Ao92, co92, eo92⟩ := Kd.R_slice HO_7.out
          subst eo92
          have p612 : 0 ≤ (x10_2 : Int) := of_decide_eq_true (g1_)
          have q612 : x10_2 < (t604.length : Int) := of_decide_eq_true (g1_)
          obtain ⟨ad612, e612, hx612_0⟩ := Kd.at_int (Kd.R_reads' HO_7.out).2.2 x10_2 p612 q612
          cases e612
          replace p612 := eq_true p612
          replace q612 := eq_true q612
          try go_wp2
          replace HO_6 := Aside0.mk (Kd.R_drew HO_6.out)
          replace HO_7 := Aside0.mk (Kd.R_drew HO_7.out)
          replace BK599 := Aside0.mk (blk_drew BK599.out)
          replace BK608 := Aside0.mk (blk_drew BK608.out)
          replace HB := Aside0.mk (below_drew1 HB.out)
          have p613 : 0 ≤ (x10_2 : Int) := of_decide_eq_true (g1_)
          have q613 : x10_2 < (l0_1.length : Int) := of_decide_eq_true (g1_)
          obtain ⟨ad613, A613_0, c613_0, e613, hx613_0, hl613_0, hi613_0⟩ := at_L2 HR0_1.out x10_2 p613 q613
          have hw613_0 := hx613_0
          cases e613
          replace hx613_0 := cl_ HB hx613_0
          have HR613_0 := Aside0.mk hi613_0
          have HC613_0 := Aside0.mk hl613_0
          clear hi613_0 hl613_0
          replace p613 := eq_true p613
          replace q613 := eq_true q613
          have p614 : 0 ≤ (x8_1 : Int) := of_decide_eq_true (g1_)
          have q614 : x8_1 < ((rd_L2 l0_1 x10_2).length : Int) := of_decide_eq_true (g1_)
          obtain ⟨ad614, e614, hx614_0⟩ := Kd.at_int HR613_0.out x8_1 p614 q614
          have hw614_0 := hx614_0
          cases e614
          replace hx614_0 := cl_ HB hx614_0
          replace p614 := eq_true p614
          replace q614 := eq_true q614
          have p615 : 0 ≤ (x10_2 : Int) := of_decide_eq_true (g1_)
          have q615 : x10_2 < (t604.length : Int) := of_decide_eq_true (g1_)
          obtain ⟨ad615, e615, hx615_0⟩ := Kd.at_int (Kd.R_reads' HO_7.out).2.2 x10_2 p615 q615
          obtain rfl : ad612 = ad615 := (by injection e615)
          replace p615 := eq_true p615
          replace q615 := eq_true q615
          refine start_ (n := 19) (S := fun w' => w'.cell? ⟨gb599, 0, none⟩ = some (.slice (some ad607) l0_0.length c0_0) ∧ w'.cell? ⟨gb599, 1, none⟩ = some (.slice (some ad613) l0_1.length c0_1) ∧ w'.cell? (ad613.add (x10_2).toNat) = some (.slice (some ad614) (rd_L2 l0_1 x10_2).length c613_0) ∧ w'.cell? (ad614.add (x8_1).toNat) = some (.int .i64 (rd (rd_L2 l0_1 x10_2) x8_1)) ∧ w'.cell? (ad612.add (x10_2).toNat) = some (.int .i64 (rd t604 x10_2))) (ds := []) (tl_ 19 0) (g0_) rfl (g0_) ⟨(blk_cell BK599.out 0).trans rfl, (blk_cell BK599.out 1).trans rfl, ((cl_ HB hw613_0).trans rfl), ((cl_ HB hw614_0).trans rfl), hx615_0⟩ (fun hHeld => ?_); refine with_tabW spec_GetsOf.tab13 spec_GetsOf.bits13 (fun HT_ HW_ => ?_)
          generalize wr.drew = w93 at HO_6 HO_7 BK599 BK608 HB HR613_0 hx613_0 hx614_0 hx615_0 hHeld ⊢
          refine pw_ 0 49 (tl_ 19 1) rfl rfl ?_
          refine pw_ 2 51 (tl_ 19 5) rfl rfl ?_
          refine pw_ 5 54 (tl_ 19 37) rfl rfl ?_
          refine pw_ 8 57 (tl_ 19 293) rfl rfl ?_
          refine pw_ 9 58 (tl_ 19 805) rfl rfl ?_
          refine pw_ 10 59 (tl_ 19 1829) rfl rfl ?_
          refine tk5_ 1 50 (tl_ 19 1831) rfl rfl hHeld ?_
          refine pw_ 3 52 (tl_ 19 1839) rfl rfl ?_
          refine tk5_ 4 53 (tl_ 19 1855) rfl rfl hHeld ?_
          refine pw_ 6 55 (tl_ 19 1919) rfl rfl ?_
          refine tk5_ 7 56 (tl_ 19 2047) rfl rfl hHeld ?_
          refine tk5_ 11 60 (tl_ 19 4095) rfl rfl hHeld ?_
          refine join_ (σ := Nat) 2 (tl_ 19 131071) (fun s_ => [(61, .tuple #[.agg #[.int .i64 t616, .int .i64 t617], .bool t618]), (11, .pointer (some ⟨s_, 0, none⟩)), (48, .tuple #[.agg #[.int .i64 t616, .int .i64 t617], .bool t618]), (62, .agg #[.int .i64 t616, .int .i64 t617]), (63, .bool t618)]) (fun s_ w' => (w'.cell? ⟨gb599, 0, none⟩ = some (.slice (some ad607) l0_0.length c0_0) ∧ w'.cell? ⟨gb599, 1, none⟩ = some (.slice (some ad613) l0_1.length c0_1) ∧ w'.cell? (ad613.add (x10_2).toNat) = some (.slice (some ad614) (rd_L2 l0_1 x10_2).length c613_0) ∧ w'.cell? (ad614.add (x8_1).toNat) = some (.int .i64 (rd (rd_L2 l0_1 x10_2) x8_1)) ∧ w'.cell? (ad612.add (x10_2).toNat) = some (.int .i64 (rd t604 x10_2))) ∧ (Kd.R k36 36 w' w.heap.size (fun k_ => k_ ≠ gb608 ∧ k_ ≠ s_) u6 x6_1) ∧ (Kd.R (Kd.int .i64) 3 w' w.heap.size (fun _ => True) (.slice (some ad612) t604.length co92) t604) ∧ (w'.heap[gb599]? = some (.cells #[.slice (some ad607) l0_0.length c0_0, .slice (some ad613) l0_1.length c0_1] 26 (0, 0))) ∧ (w'.heap[gb608]? = some (.cells #[.int .i64 x609000_2, .int .i64 x609001_2] 36 (0, 0))) ∧ (w'.heap[s_]? = some (.cells #[.int .i64 0, .int .i64 0] 36 (0, 0))) ∧ (w.heap.size ≤ s_) ∧ (w.heap.size ≤ s_) ∧ (gb599 ≠ s_) ∧ (s_ ≠ gb599) ∧ (gb608 ≠ s_) ∧ (s_ ≠ gb608) ∧ (Below w.heap.size w w')) ?_ ?_
          rotate_left
          ·intro hCont
           refine two_ (i := 12) (j := 16) (Ni := some 61) (Nj := some 11) (tl_ 19 8191) (tl_ 19 69631) rfl rfl rfl rfl (two_of HT_.out (g0_)) (by decide) (by decide) (fun K hK => ?_) (fun K hK => ?_)
           ·skip
            refine goes_ Try.func74 (g0_) rfl #[.int .i64 (rd (rd_L2 l0_1 x10_2) x8_1), .int .i64 (rd t604 x10_2)] (by rfl) rfl rfl (g2_) ?_
            with_reducible refine (spec_FracOf.calls k2 (rd (rd_L2 l0_1 x10_2) x8_1) (rd t604 x10_2) t616 t617 t618 _ A28.out).mono ?_
            rintro e w94 ⟨rfl, hb⟩
            have HS4_ := (hb.cell (World.block_lt_of_cell? _ _ (hHeld.2.2.2.2))).trans (hHeld.2.2.2.2)
            refine ⟨_, rfl, ?_⟩
            replace HO_6 := Aside0.mk (Kd.R_below (uf1_ HO_6) hb)
            replace HO_7 := Aside0.mk (Kd.R_below (uf1_ HO_7) hb)
            replace BK599 := bb_ BK599 hb
            replace BK608 := bb_ BK608 hb
            replace HB := Aside0.mk (below_step (qz0_) hb)
            (try clear hb)
            (try clear hk hi)
            refine hK.out _ _ ⟨(blk_cell BK599.out 0).trans rfl, (blk_cell BK599.out 1).trans rfl, ((cl_ HB hw613_0).trans rfl), ((cl_ HB hw614_0).trans rfl), HS4_⟩ (fun hHeld => ?_)
            clear hK K
            refine nm_ ?_
            refine pw_ 13 48 (tl_ 19 16383) rfl rfl ?_
            refine pw_ 14 62 (tl_ 19 32767) rfl rfl ?_
            refine pw_ 15 63 (tl_ 19 65535) rfl rfl ?_
            refine one_ (i := 16) (N := some 11) (tl_ 19 131071) rfl rfl (one_of HT_.out (g0_)) (by decide) (fun K hK => ?_)
            refine bs_ (N := 11) #[.int .i64 0, .int .i64 0] 36 ?_
            intro gb619 hg w95 hbox hb
            have HS4_ := (hb.cell (World.block_lt_of_cell? _ _ (hHeld.2.2.2.2))).trans (hHeld.2.2.2.2)
            replace HO_6 := Aside0.mk (Kd.R_below (Kd.R_elderB (uf1_ HO_6) gb619 (Nat.le_of_eq hg.symm)) hb)
            replace HO_7 := Aside0.mk (Kd.R_below (uf1_ HO_7) hb)
            have BK619 := Aside0.mk (hbox)
            have GW619 := Aside0.mk ((g6_ : w.heap.size ≤ gb619))
            have GE619 := Aside0.mk ((g6_ : w.heap.size ≤ gb619))
            replace HB := Aside0.mk (below_step (qz0_) hb)
            have NB599_619 := Aside0.mk ((g25_ : gb599 ≠ gb619))
            have NB619_599 := Aside0.mk ((g26_ : gb619 ≠ gb599))
            replace BK599 := bb_ BK599 hb
            have NB608_619 := Aside0.mk ((g27_ : gb608 ≠ gb619))
            have NB619_608 := Aside0.mk ((g28_ : gb619 ≠ gb608))
            replace BK608 := bb_ BK608 hb
            clear hb hbox hg
            refine hK.out _ _ ⟨(blk_cell BK599.out 0).trans rfl, (blk_cell BK599.out 1).trans rfl, ((cl_ HB hw613_0).trans rfl), ((cl_ HB hw614_0).trans rfl), HS4_⟩ (fun hHeld => ?_)
            clear hK K
            refine nm_ ?_
            exact norm_ (g8_) (hCont (gb619) _ ⟨hHeld, (uf1_ HO_6), (uf1_ HO_7), (uf0_ BK599), (uf0_ BK608), (uf0_ BK619), GW619.out, GE619.out, NB599_619.out, NB619_599.out, NB608_619.out, NB619_608.out, (qz0_)⟩)
           ·skip
            refine bs_ (N := 11) #[.int .i64 0, .int .i64 0] 36 ?_
            intro gb619 hg w94 hbox hb
            have HS4_ := (hb.cell (World.block_lt_of_cell? _ _ (hHeld.2.2.2.2))).trans (hHeld.2.2.2.2)
            replace HO_6 := Aside0.mk (Kd.R_below (Kd.R_elderB (uf1_ HO_6) gb619 (Nat.le_of_eq hg.symm)) hb)
            replace HO_7 := Aside0.mk (Kd.R_below (uf1_ HO_7) hb)
            have BK619 := Aside0.mk (hbox)
            have GW619 := Aside0.mk ((g6_ : w.heap.size ≤ gb619))
            have GE619 := Aside0.mk ((g6_ : w.heap.size ≤ gb619))
            replace HB := Aside0.mk (below_step (qz0_) hb)
            have NB599_619 := Aside0.mk ((g25_ : gb599 ≠ gb619))
            have NB619_599 := Aside0.mk ((g26_ : gb619 ≠ gb599))
            replace BK599 := bb_ BK599 hb
            have NB608_619 := Aside0.mk ((g27_ : gb608 ≠ gb619))
            have NB619_608 := Aside0.mk ((g28_ : gb619 ≠ gb608))
            replace BK608 := bb_ BK608 hb
            clear hb hbox hg
            refine hK.out _ _ ⟨(blk_cell BK599.out 0).trans rfl, (blk_cell BK599.out 1).trans rfl, ((cl_ HB hw613_0).trans rfl), ((cl_ HB hw614_0).trans rfl), HS4_⟩ (fun hHeld => ?_)
            clear hK K
            refine nm_ ?_
            refine one_ (i := 12) (N := some 61) (tl_ 19 73727) rfl rfl (one_of HT_.out (g0_)) (by decide) (fun K hK => ?_)
            refine goes_ Try.func74 (g0_) rfl #[.int .i64 (rd (rd_L2 l0_1 x10_2) x8_1), .int .i64 (rd t604 x10_2)] (by rfl) rfl rfl (g2_) ?_
            with_reducible refine (spec_FracOf.calls k2 (rd (rd_L2 l0_1 x10_2) x8_1) (rd t604 x10_2) t616 t617 t618 _ A28.out).mono ?_
            rintro e w95 ⟨rfl, hb⟩
            have HS4_ := (hb.cell (World.block_lt_of_cell? _ _ (hHeld.2.2.2.2))).trans (hHeld.2.2.2.2)
            refine ⟨_, rfl, ?_⟩
            replace HO_6 := Aside0.mk (Kd.R_below (uf1_ HO_6) hb)
            replace HO_7 := Aside0.mk (Kd.R_below (uf1_ HO_7) hb)
            replace BK599 := bb_ BK599 hb
            replace BK608 := bb_ BK608 hb
            replace BK619 := bb_ BK619 hb
            replace HB := Aside0.mk (below_step (qz0_) hb)
            (try clear hb)
            (try clear hk hi)
            refine hK.out _ _ ⟨(blk_cell BK599.out 0).trans rfl, (blk_cell BK599.out 1).trans rfl, ((cl_ HB hw613_0).trans rfl), ((cl_ HB hw614_0).trans rfl), HS4_⟩ (fun hHeld => ?_)
            clear hK K
            refine nm_ ?_
            refine pw_ 13 48 (tl_ 19 81919) rfl rfl ?_
            refine pw_ 14 62 (tl_ 19 98303) rfl rfl ?_
            refine pw_ 15 63 (tl_ 19 131071) rfl rfl ?_
            exact norm_ (g8_) (hCont (gb619) _ ⟨hHeld, (uf1_ HO_6), (uf1_ HO_7), (uf0_ BK599), (uf0_ BK608), (uf0_ BK619), GW619.out, GE619.out, NB599_619.out, NB619_599.out, NB608_619.out, NB619_608.out, (qz0_)⟩)
          rintro gb619 w96 ⟨hS_, h0_, h1_, h2_, h3_, h4_, h5_, h6_, h7_, h8_, h9_, h10_, h11_⟩
          replace HO_6 : Aside0 (Kd.R k36 36 w96 w.heap.size (fun k_ => k_ ≠ gb608 ∧ k_ ≠ gb619) u6 x6_1) := ⟨h0_⟩
          replace HO_7 : Aside0 (Kd.R (Kd.int .i64) 3 w96 w.heap.size (fun _ => True) (.slice (some ad612) t604.length co92) t604) := ⟨h1_⟩
          replace BK599 : Aside0 (w96.heap[gb599]? = some (.cells #[.slice (some ad607) l0_0.length c0_0, .slice (some ad613) l0_1.length c0_1] 26 (0, 0))) := ⟨h2_⟩
          replace BK608 : Aside0 (w96.heap[gb608]? = some (.cells #[.int .i64 x609000_2, .int .i64 x609001_2] 36 (0, 0))) := ⟨h3_⟩
          have BK619 : Aside0 (w96.heap[gb619]? = some (.cells #[.int .i64 0, .int .i64 0] 36 (0, 0))) := ⟨h4_⟩
          have GW619 : Aside0 (w.heap.size ≤ gb619) := ⟨h5_⟩
          have GE619 : Aside0 (w.heap.size ≤ gb619) := ⟨h6_⟩
          have NB599_619 : Aside0 (gb599 ≠ gb619) := ⟨h7_⟩
          have NB619_599 : Aside0 (gb619 ≠ gb599) := ⟨h8_⟩
          have NB608_619 : Aside0 (gb608 ≠ gb619) := ⟨h9_⟩
          have NB619_608 : Aside0 (gb619 ≠ gb608) := ⟨h10_⟩
          replace HB : Aside0 (Below w.heap.size w w96) := ⟨h11_⟩
          clear h0_ h1_ h2_ h3_ h4_ h5_ h6_ h7_ h8_ h9_ h10_ h11_
          have hHeld : w96.cell? ⟨gb599, 0, none⟩ = some (.slice (some ad607) l0_0.length c0_0) ∧ w96.cell? ⟨gb599, 1, none⟩ = some (.slice (some ad613) l0_1.length c0_1) ∧ w96.cell? (ad613.add (x10_2).toNat) = some (.slice (some ad614) (rd_L2 l0_1 x10_2).length c613_0) ∧ w96.cell? (ad614.add (x8_1).toNat) = some (.int .i64 (rd (rd_L2 l0_1 x10_2) x8_1)) ∧ w96.cell? (ad612.add (x10_2).toNat) = some (.int .i64 (rd t604 x10_2)) := hS_
          refine norm_ (a' := ?_) ?_ ?_
          rotate_left
          ·simp only [putAll, Act.put, List.setIfInBounds_toArray, List.set_cons_zero, List.set_cons_succ]
           rfl
          refine one_ (i := 17) (N := none) (tl_ 19 262143) rfl rfl (one_of HT_.out (g0_)) (by decide) (fun K hK => ?_)
          have hs97 : w96.cell? ⟨gb619, 0, none⟩ = some (.int .i64 0) := (blk_cell BK619.out 0).trans rfl
          have hfs97 := blk_frozen BK619.out 0
          have hns97_0 := NB599_619.out
          have hns97_1 := NB608_619.out
          have hms97_0 := NB619_599.out
          have hms97_1 := NB619_608.out
          have hs98 : w96.cell? ⟨gb619, 1, none⟩ = some (.int .i64 0) := (blk_cell BK619.out 1).trans rfl
          have hfs98 := blk_frozen BK619.out 1
          have hns98_0 := NB599_619.out
          have hns98_1 := NB608_619.out
          have hms98_0 := NB619_599.out
          have hms98_1 := NB619_608.out
          refine skip_ (w1 := ?_) (by rfl) rfl ?_ ?_
          rotate_left
          ·go_simp
           rfl
          refine hK.out _ _ ⟨(cf_ NB599_619 ((cf_ NB599_619 (hHeld.1)))), (cf_ NB599_619 ((cf_ NB599_619 (hHeld.2.1)))), ((cell_far (p := ⟨gb619, _, none⟩) (by first | exact Nat.ne_of_lt (Nat.lt_of_lt_of_le (by have := World.block_lt_of_cell? _ _ hw613_0; first | rwa [add_block] at this | exact this) GW619.out) | (rw [add_block]; exact Nat.ne_of_lt (Nat.lt_of_lt_of_le (by have := World.block_lt_of_cell? _ _ hw613_0; first | rwa [add_block] at this | exact this) GW619.out)) | (show (Addr.add _ _).block ≠ _; rw [add_block]; exact Nat.ne_of_lt (Nat.lt_of_lt_of_le (by have := World.block_lt_of_cell? _ _ hw613_0; first | rwa [add_block] at this | exact this) GW619.out)) | (dsimp only; exact Nat.ne_of_lt (Nat.lt_of_lt_of_le (by have := World.block_lt_of_cell? _ _ hw613_0; first | rwa [add_block] at this | exact this) GW619.out))) _).trans (((cell_far (p := ⟨gb619, _, none⟩) (by first | exact Nat.ne_of_lt (Nat.lt_of_lt_of_le (by have := World.block_lt_of_cell? _ _ hw613_0; first | rwa [add_block] at this | exact this) GW619.out) | (rw [add_block]; exact Nat.ne_of_lt (Nat.lt_of_lt_of_le (by have := World.block_lt_of_cell? _ _ hw613_0; first | rwa [add_block] at this | exact this) GW619.out)) | (show (Addr.add _ _).block ≠ _; rw [add_block]; exact Nat.ne_of_lt (Nat.lt_of_lt_of_le (by have := World.block_lt_of_cell? _ _ hw613_0; first | rwa [add_block] at this | exact this) GW619.out)) | (dsimp only; exact Nat.ne_of_lt (Nat.lt_of_lt_of_le (by have := World.block_lt_of_cell? _ _ hw613_0; first | rwa [add_block] at this | exact this) GW619.out))) _).trans (hHeld.2.2.1)))), ((cell_far (p := ⟨gb619, _, none⟩) (by first | exact Nat.ne_of_lt (Nat.lt_of_lt_of_le (by have := World.block_lt_of_cell? _ _ hw614_0; first | rwa [add_block] at this | exact this) GW619.out) | (rw [add_block]; exact Nat.ne_of_lt (Nat.lt_of_lt_of_le (by have := World.block_lt_of_cell? _ _ hw614_0; first | rwa [add_block] at this | exact this) GW619.out)) | (show (Addr.add _ _).block ≠ _; rw [add_block]; exact Nat.ne_of_lt (Nat.lt_of_lt_of_le (by have := World.block_lt_of_cell? _ _ hw614_0; first | rwa [add_block] at this | exact this) GW619.out)) | (dsimp only; exact Nat.ne_of_lt (Nat.lt_of_lt_of_le (by have := World.block_lt_of_cell? _ _ hw614_0; first | rwa [add_block] at this | exact this) GW619.out))) _).trans (((cell_far (p := ⟨gb619, _, none⟩) (by first | exact Nat.ne_of_lt (Nat.lt_of_lt_of_le (by have := World.block_lt_of_cell? _ _ hw614_0; first | rwa [add_block] at this | exact this) GW619.out) | (rw [add_block]; exact Nat.ne_of_lt (Nat.lt_of_lt_of_le (by have := World.block_lt_of_cell? _ _ hw614_0; first | rwa [add_block] at this | exact this) GW619.out)) | (show (Addr.add _ _).block ≠ _; rw [add_block]; exact Nat.ne_of_lt (Nat.lt_of_lt_of_le (by have := World.block_lt_of_cell? _ _ hw614_0; first | rwa [add_block] at this | exact this) GW619.out)) | (dsimp only; exact Nat.ne_of_lt (Nat.lt_of_lt_of_le (by have := World.block_lt_of_cell? _ _ hw614_0; first | rwa [add_block] at this | exact this) GW619.out))) _).trans (hHeld.2.2.2.1)))), ((cell_far (p := ⟨gb619, _, none⟩) (g72_) _).trans (((cell_far (p := ⟨gb619, _, none⟩) (g72_) _).trans (hHeld.2.2.2.2))))⟩ (fun hHeld => ?_)
          clear hK K
          refine pw_ 18 12 (tl_ 19 524287) rfl rfl ?_
          refine done_ (done_of HT_.out (g0_)) ?_
          try go_wp2
          have n0_ : Aside0 (Kd.R k36 36 ((w96.setCell ⟨gb619, 0, none⟩ (.int .i64 t616)).setCell ⟨gb619, 1, none⟩ (.int .i64 t617)) w.heap.size (fun k_ => k_ ≠ gb608 ∧ k_ ≠ gb619) u6 x6_1) := ⟨g159_⟩
          have n1_ : Aside0 (Kd.R (Kd.int .i64) 3 ((w96.setCell ⟨gb619, 0, none⟩ (.int .i64 t616)).setCell ⟨gb619, 1, none⟩ (.int .i64 t617)) w.heap.size (fun _ => True) (.slice (some ad612) t604.length co92) t604) := ⟨g160_⟩
          have n2_ : Aside0 (((w96.setCell ⟨gb619, 0, none⟩ (.int .i64 t616)).setCell ⟨gb619, 1, none⟩ (.int .i64 t617)).heap[gb599]? = some (.cells #[.slice (some ad607) l0_0.length c0_0, .slice (some ad613) l0_1.length c0_1] 26 (0, 0))) := ⟨g161_⟩
          have n3_ : Aside0 (((w96.setCell ⟨gb619, 0, none⟩ (.int .i64 t616)).setCell ⟨gb619, 1, none⟩ (.int .i64 t617)).heap[gb608]? = some (.cells #[.int .i64 x609000_2, .int .i64 x609001_2] 36 (0, 0))) := ⟨g162_⟩
          have n4_ : Aside0 (((w96.setCell ⟨gb619, 0, none⟩ (.int .i64 t616)).setCell ⟨gb619, 1, none⟩ (.int .i64 t617)).heap[gb619]? = some (.cells #[.int .i64 t616, .int .i64 t617] 36 (0, 0))) := ⟨g163_⟩
          have n5_ : Aside0 (Below w.heap.size w ((w96.setCell ⟨gb619, 0, none⟩ (.int .i64 t616)).setCell ⟨gb619, 1, none⟩ (.int .i64 t617))) := ⟨qz0_⟩
          (try clear HO_6)
          (try clear HO_7)
          (try clear BK599)
          (try clear BK608)
          (try clear BK619)
          (try clear HB)
          generalize ((w96.setCell ⟨gb619, 0, none⟩ (.int .i64 t616)).setCell ⟨gb619, 1, none⟩ (.int .i64 t617)) = w99 at n0_ n1_ n2_ n3_ n4_ n5_ ⊢
          have HO_6 := n0_
          have HO_7 := n1_
          have BK599 := n2_
          have BK608 := n3_
          have BK619 := n4_
          have HB := n5_
          clear n0_ n1_ n2_ n3_ n4_ n5_
          replace HO_6 := Aside0.mk (Kd.R_drew HO_6.out)
          replace HO_7 := Aside0.mk (Kd.R_drew HO_7.out)
          replace BK599 := Aside0.mk (blk_drew BK599.out)
          replace BK608 := Aside0.mk (blk_drew BK608.out)
          replace BK619 := Aside0.mk (blk_drew BK619.out)
          replace HB := Aside0.mk (below_drew1 HB.out)
          have p620 : 0 ≤ (x10_2 : Int) := of_decide_eq_true (g1_)
          have q620 : x10_2 < (l1.length : Int) := of_decide_eq_true (g1_)
          obtain ⟨ad620, e620, hx620_0, hx620_1⟩ := at_T36 HR1.out x10_2 p620 q620
          have hw620_1 := hx620_1
          have hw620_0 := hx620_0
          cases e620
          replace hx620_0 := cl_ HB hx620_0
          replace hx620_1 := cl_ HB hx620_1
          replace p620 := eq_true p620
          replace q620 := eq_true q620
          refine start_ (n := 12) (S := fun w' => w'.cell? ⟨gb619, 0, none⟩ = some (.int .i64 t616) ∧ w'.cell? ⟨gb619, 1, none⟩ = some (.int .i64 t617) ∧ w'.cell? (ad620.add ((x10_2).toNat * 2)) = some (.int .i64 ((rd_T36 l1 x10_2).f0)) ∧ w'.cell? ⟨(ad620.add ((x10_2).toNat * 2)).block, (ad620.add ((x10_2).toNat * 2)).off + 1, none⟩ = some (.int .i64 ((rd_T36 l1 x10_2).f1))) (ds := []) (tl_ 12 0) (g0_) rfl (g0_) ⟨(blk_cell BK619.out 0).trans rfl, (blk_cell BK619.out 1).trans rfl, ((cl_ HB hw620_0).trans rfl), ((cl_ HB hw620_1).trans rfl)⟩ (fun hHeld => ?_); refine with_tabW spec_GetsOf.tab14 spec_GetsOf.bits14 (fun HT_ HW_ => ?_)
          generalize w99.drew = w100 at HO_6 HO_7 BK599 BK608 BK619 HB hx620_0 hx620_1 hHeld ⊢
          refine pw_ 0 65 (tl_ 12 1) rfl rfl ?_
          refine pw_ 1 66 (tl_ 12 3) rfl rfl ?_
          refine pw_ 2 67 (tl_ 12 7) rfl rfl ?_
          refine tk3_ 3 68 (tl_ 12 15) rfl rfl hHeld ?_
          refine tk3_ 4 69 (tl_ 12 31) rfl rfl hHeld ?_
          refine join_ (σ := Nat) 2 (tl_ 12 1023) (fun s_ => [(70, .tuple #[.agg #[.int .i64 t621, .int .i64 t622], .bool false]), (13, .pointer (some ⟨s_, 0, none⟩)), (64, .tuple #[.agg #[.int .i64 t621, .int .i64 t622], .bool false]), (71, .agg #[.int .i64 t621, .int .i64 t622]), (72, .bool false)]) (fun s_ w' => (w'.cell? ⟨gb619, 0, none⟩ = some (.int .i64 t616) ∧ w'.cell? ⟨gb619, 1, none⟩ = some (.int .i64 t617) ∧ w'.cell? (ad620.add ((x10_2).toNat * 2)) = some (.int .i64 ((rd_T36 l1 x10_2).f0)) ∧ w'.cell? ⟨(ad620.add ((x10_2).toNat * 2)).block, (ad620.add ((x10_2).toNat * 2)).off + 1, none⟩ = some (.int .i64 ((rd_T36 l1 x10_2).f1))) ∧ (Kd.R k36 36 w' w.heap.size (fun k_ => k_ ≠ gb608 ∧ k_ ≠ gb619 ∧ k_ ≠ s_) u6 x6_1) ∧ (Kd.R (Kd.int .i64) 3 w' w.heap.size (fun _ => True) (.slice (some ad612) t604.length co92) t604) ∧ (w'.heap[gb599]? = some (.cells #[.slice (some ad607) l0_0.length c0_0, .slice (some ad613) l0_1.length c0_1] 26 (0, 0))) ∧ (w'.heap[gb608]? = some (.cells #[.int .i64 x609000_2, .int .i64 x609001_2] 36 (0, 0))) ∧ (w'.heap[gb619]? = some (.cells #[.int .i64 t616, .int .i64 t617] 36 (0, 0))) ∧ (w'.heap[s_]? = some (.cells #[.int .i64 0, .int .i64 0] 36 (0, 0))) ∧ (w.heap.size ≤ s_) ∧ (w.heap.size ≤ s_) ∧ (gb599 ≠ s_) ∧ (s_ ≠ gb599) ∧ (gb608 ≠ s_) ∧ (s_ ≠ gb608) ∧ (gb619 ≠ s_) ∧ (s_ ≠ gb619) ∧ (Below w.heap.size w w')) ?_ ?_
          rotate_left
          ·intro hCont
           refine two_ (i := 5) (j := 9) (Ni := some 70) (Nj := some 13) (tl_ 12 63) (tl_ 12 543) rfl rfl rfl rfl (two_of HT_.out (g0_)) (by decide) (by decide) (fun K hK => ?_) (fun K hK => ?_)
           ·skip
            refine goes_ Try.func75 (g0_) rfl #[.agg #[.int .i64 ((rd_T36 l1 x10_2).f0), .int .i64 ((rd_T36 l1 x10_2).f1)], .agg #[.int .i64 t616, .int .i64 t617]] (by rfl) rfl rfl (g2_) ?_
            with_reducible refine (spec_TimesOf.calls k2 ((rd_T36 l1 x10_2).f0) ((rd_T36 l1 x10_2).f1) t616 t617 t621 t622 false _ A29.out).mono ?_
            rintro e w101 ⟨rfl, hb⟩
            refine ⟨_, rfl, ?_⟩
            replace HO_6 := Aside0.mk (Kd.R_below (uf1_ HO_6) hb)
            replace HO_7 := Aside0.mk (Kd.R_below (uf1_ HO_7) hb)
            replace BK599 := bb_ BK599 hb
            replace BK608 := bb_ BK608 hb
            replace BK619 := bb_ BK619 hb
            replace HB := Aside0.mk (below_step (qz0_) hb)
            (try clear hb)
            (try clear hk hi)
            refine hK.out _ _ ⟨(blk_cell BK619.out 0).trans rfl, (blk_cell BK619.out 1).trans rfl, ((cl_ HB hw620_0).trans rfl), ((cl_ HB hw620_1).trans rfl)⟩ (fun hHeld => ?_)
            clear hK K
            refine nm_ ?_
            refine pw_ 6 64 (tl_ 12 127) rfl rfl ?_
            refine pw_ 7 71 (tl_ 12 255) rfl rfl ?_
            refine pw_ 8 72 (tl_ 12 511) rfl rfl ?_
            refine one_ (i := 9) (N := some 13) (tl_ 12 1023) rfl rfl (one_of HT_.out (g0_)) (by decide) (fun K hK => ?_)
            refine bs_ (N := 13) #[.int .i64 0, .int .i64 0] 36 ?_
            intro gb624 hg w102 hbox hb
            replace HO_6 := Aside0.mk (Kd.R_below (Kd.R_elderB (uf1_ HO_6) gb624 (Nat.le_of_eq hg.symm)) hb)
            replace HO_7 := Aside0.mk (Kd.R_below (uf1_ HO_7) hb)
            have BK624 := Aside0.mk (hbox)
            have GW624 := Aside0.mk ((g6_ : w.heap.size ≤ gb624))
            have GE624 := Aside0.mk ((g6_ : w.heap.size ≤ gb624))
            replace HB := Aside0.mk (below_step (qz0_) hb)
            have NB599_624 := Aside0.mk ((g25_ : gb599 ≠ gb624))
            have NB624_599 := Aside0.mk ((g26_ : gb624 ≠ gb599))
            replace BK599 := bb_ BK599 hb
            have NB608_624 := Aside0.mk ((g27_ : gb608 ≠ gb624))
            have NB624_608 := Aside0.mk ((g28_ : gb624 ≠ gb608))
            replace BK608 := bb_ BK608 hb
            have NB619_624 := Aside0.mk ((g39_ : gb619 ≠ gb624))
            have NB624_619 := Aside0.mk ((g40_ : gb624 ≠ gb619))
            replace BK619 := bb_ BK619 hb
            clear hb hbox hg
            refine hK.out _ _ ⟨(blk_cell BK619.out 0).trans rfl, (blk_cell BK619.out 1).trans rfl, ((cl_ HB hw620_0).trans rfl), ((cl_ HB hw620_1).trans rfl)⟩ (fun hHeld => ?_)
            clear hK K
            refine nm_ ?_
            exact norm_ (g8_) (hCont (gb624) _ ⟨hHeld, (g73_), (uf1_ HO_7), (uf0_ BK599), (uf0_ BK608), (uf0_ BK619), (uf0_ BK624), GW624.out, GE624.out, NB599_624.out, NB624_599.out, NB608_624.out, NB624_608.out, NB619_624.out, NB624_619.out, (qz0_)⟩)
           ·skip
            refine bs_ (N := 13) #[.int .i64 0, .int .i64 0] 36 ?_
            intro gb624 hg w101 hbox hb
            replace HO_6 := Aside0.mk (Kd.R_below (Kd.R_elderB (uf1_ HO_6) gb624 (Nat.le_of_eq hg.symm)) hb)
            replace HO_7 := Aside0.mk (Kd.R_below (uf1_ HO_7) hb)
            have BK624 := Aside0.mk (hbox)
            have GW624 := Aside0.mk ((g6_ : w.heap.size ≤ gb624))
            have GE624 := Aside0.mk ((g6_ : w.heap.size ≤ gb624))
            replace HB := Aside0.mk (below_step (qz0_) hb)
            have NB599_624 := Aside0.mk ((g25_ : gb599 ≠ gb624))
            have NB624_599 := Aside0.mk ((g26_ : gb624 ≠ gb599))
            replace BK599 := bb_ BK599 hb
            have NB608_624 := Aside0.mk ((g27_ : gb608 ≠ gb624))
            have NB624_608 := Aside0.mk ((g28_ : gb624 ≠ gb608))
            replace BK608 := bb_ BK608 hb
            have NB619_624 := Aside0.mk ((g39_ : gb619 ≠ gb624))
            have NB624_619 := Aside0.mk ((g40_ : gb624 ≠ gb619))
            replace BK619 := bb_ BK619 hb
            clear hb hbox hg
            refine hK.out _ _ ⟨(blk_cell BK619.out 0).trans rfl, (blk_cell BK619.out 1).trans rfl, ((cl_ HB hw620_0).trans rfl), ((cl_ HB hw620_1).trans rfl)⟩ (fun hHeld => ?_)
            clear hK K
            refine nm_ ?_
            refine one_ (i := 5) (N := some 70) (tl_ 12 575) rfl rfl (one_of HT_.out (g0_)) (by decide) (fun K hK => ?_)
            refine goes_ Try.func75 (g0_) rfl #[.agg #[.int .i64 ((rd_T36 l1 x10_2).f0), .int .i64 ((rd_T36 l1 x10_2).f1)], .agg #[.int .i64 t616, .int .i64 t617]] (by rfl) rfl rfl (g2_) ?_
            with_reducible refine (spec_TimesOf.calls k2 ((rd_T36 l1 x10_2).f0) ((rd_T36 l1 x10_2).f1) t616 t617 t621 t622 false _ A29.out).mono ?_
            rintro e w102 ⟨rfl, hb⟩
            refine ⟨_, rfl, ?_⟩
            replace HO_6 := Aside0.mk (Kd.R_below (uf1_ HO_6) hb)
            replace HO_7 := Aside0.mk (Kd.R_below (uf1_ HO_7) hb)
            replace BK599 := bb_ BK599 hb
            replace BK608 := bb_ BK608 hb
            replace BK619 := bb_ BK619 hb
            replace BK624 := bb_ BK624 hb
            replace HB := Aside0.mk (below_step (qz0_) hb)
            (try clear hb)
            (try clear hk hi)
            refine hK.out _ _ ⟨(blk_cell BK619.out 0).trans rfl, (blk_cell BK619.out 1).trans rfl, ((cl_ HB hw620_0).trans rfl), ((cl_ HB hw620_1).trans rfl)⟩ (fun hHeld => ?_)
            clear hK K
            refine nm_ ?_
            refine pw_ 6 64 (tl_ 12 639) rfl rfl ?_
            refine pw_ 7 71 (tl_ 12 767) rfl rfl ?_
            refine pw_ 8 72 (tl_ 12 1023) rfl rfl ?_
            exact norm_ (g8_) (hCont (gb624) _ ⟨hHeld, (g73_), (uf1_ HO_7), (uf0_ BK599), (uf0_ BK608), (uf0_ BK619), (uf0_ BK624), GW624.out, GE624.out, NB599_624.out, NB624_599.out, NB608_624.out, NB624_608.out, NB619_624.out, NB624_619.out, (qz0_)⟩)
          rintro gb624 w103 ⟨hS_, h0_, h1_, h2_, h3_, h4_, h5_, h6_, h7_, h8_, h9_, h10_, h11_, h12_, h13_, h14_⟩
          replace HO_6 : Aside0 (Kd.R k36 36 w103 w.heap.size (fun k_ => k_ ≠ gb608 ∧ k_ ≠ gb619 ∧ k_ ≠ gb624) u6 x6_1) := ⟨h0_⟩
          replace HO_7 : Aside0 (Kd.R (Kd.int .i64) 3 w103 w.heap.size (fun _ => True) (.slice (some ad612) t604.length co92) t604) := ⟨h1_⟩
          replace BK599 : Aside0 (w103.heap[gb599]? = some (.cells #[.slice (some ad607) l0_0.length c0_0, .slice (some ad613) l0_1.length c0_1] 26 (0, 0))) := ⟨h2_⟩
          replace BK608 : Aside0 (w103.heap[gb608]? = some (.cells #[.int .i64 x609000_2, .int .i64 x609001_2] 36 (0, 0))) := ⟨h3_⟩
          replace BK619 : Aside0 (w103.heap[gb619]? = some (.cells #[.int .i64 t616, .int .i64 t617] 36 (0, 0))) := ⟨h4_⟩
          have BK624 : Aside0 (w103.heap[gb624]? = some (.cells #[.int .i64 0, .int .i64 0] 36 (0, 0))) := ⟨h5_⟩
          have GW624 : Aside0 (w.heap.size ≤ gb624) := ⟨h6_⟩
          have GE624 : Aside0 (w.heap.size ≤ gb624) := ⟨h7_⟩
          have NB599_624 : Aside0 (gb599 ≠ gb624) := ⟨h8_⟩
          have NB624_599 : Aside0 (gb624 ≠ gb599) := ⟨h9_⟩
          have NB608_624 : Aside0 (gb608 ≠ gb624) := ⟨h10_⟩
          have NB624_608 : Aside0 (gb624 ≠ gb608) := ⟨h11_⟩
          have NB619_624 : Aside0 (gb619 ≠ gb624) := ⟨h12_⟩
          have NB624_619 : Aside0 (gb624 ≠ gb619) := ⟨h13_⟩
          replace HB : Aside0 (Below w.heap.size w w103) := ⟨h14_⟩
          clear h0_ h1_ h2_ h3_ h4_ h5_ h6_ h7_ h8_ h9_ h10_ h11_ h12_ h13_ h14_
          have hHeld : w103.cell? ⟨gb619, 0, none⟩ = some (.int .i64 t616) ∧ w103.cell? ⟨gb619, 1, none⟩ = some (.int .i64 t617) ∧ w103.cell? (ad620.add ((x10_2).toNat * 2)) = some (.int .i64 ((rd_T36 l1 x10_2).f0)) ∧ w103.cell? ⟨(ad620.add ((x10_2).toNat * 2)).block, (ad620.add ((x10_2).toNat * 2)).off + 1, none⟩ = some (.int .i64 ((rd_T36 l1 x10_2).f1)) := hS_
          refine norm_ (a' := ?_) ?_ ?_
          rotate_left
          ·simp only [putAll, Act.put, List.setIfInBounds_toArray, List.set_cons_zero, List.set_cons_succ]
           rfl
          refine one_ (i := 10) (N := none) (tl_ 12 2047) rfl rfl (one_of HT_.out (g0_)) (by decide) (fun K hK => ?_)
          have hs104 : w103.cell? ⟨gb624, 0, none⟩ = some (.int .i64 0) := (blk_cell BK624.out 0).trans rfl
          have hfs104 := blk_frozen BK624.out 0
          have hns104_0 := NB599_624.out
          have hns104_1 := NB608_624.out
          have hns104_2 := NB619_624.out
          have hms104_0 := NB624_599.out
          have hms104_1 := NB624_608.out
          have hms104_2 := NB624_619.out
          have hs105 : w103.cell? ⟨gb624, 1, none⟩ = some (.int .i64 0) := (blk_cell BK624.out 1).trans rfl
          have hfs105 := blk_frozen BK624.out 1
          have hns105_0 := NB599_624.out
          have hns105_1 := NB608_624.out
          have hns105_2 := NB619_624.out
          have hms105_0 := NB624_599.out
          have hms105_1 := NB624_608.out
          have hms105_2 := NB624_619.out
          refine skip_ (w1 := ?_) (by rfl) rfl ?_ ?_
          rotate_left
          ·go_simp
           rfl
          refine hK.out _ _ ⟨(cf_ NB619_624 ((cf_ NB619_624 (hHeld.1)))), (cf_ NB619_624 ((cf_ NB619_624 (hHeld.2.1)))), ((cell_far (p := ⟨gb624, _, none⟩) (by first | exact Nat.ne_of_lt (Nat.lt_of_lt_of_le (by have := World.block_lt_of_cell? _ _ hw620_0; first | rwa [add_block] at this | exact this) GW624.out) | (rw [add_block]; exact Nat.ne_of_lt (Nat.lt_of_lt_of_le (by have := World.block_lt_of_cell? _ _ hw620_0; first | rwa [add_block] at this | exact this) GW624.out)) | (show (Addr.add _ _).block ≠ _; rw [add_block]; exact Nat.ne_of_lt (Nat.lt_of_lt_of_le (by have := World.block_lt_of_cell? _ _ hw620_0; first | rwa [add_block] at this | exact this) GW624.out)) | (dsimp only; exact Nat.ne_of_lt (Nat.lt_of_lt_of_le (by have := World.block_lt_of_cell? _ _ hw620_0; first | rwa [add_block] at this | exact this) GW624.out))) _).trans (((cell_far (p := ⟨gb624, _, none⟩) (by first | exact Nat.ne_of_lt (Nat.lt_of_lt_of_le (by have := World.block_lt_of_cell? _ _ hw620_0; first | rwa [add_block] at this | exact this) GW624.out) | (rw [add_block]; exact Nat.ne_of_lt (Nat.lt_of_lt_of_le (by have := World.block_lt_of_cell? _ _ hw620_0; first | rwa [add_block] at this | exact this) GW624.out)) | (show (Addr.add _ _).block ≠ _; rw [add_block]; exact Nat.ne_of_lt (Nat.lt_of_lt_of_le (by have := World.block_lt_of_cell? _ _ hw620_0; first | rwa [add_block] at this | exact this) GW624.out)) | (dsimp only; exact Nat.ne_of_lt (Nat.lt_of_lt_of_le (by have := World.block_lt_of_cell? _ _ hw620_0; first | rwa [add_block] at this | exact this) GW624.out))) _).trans (hHeld.2.2.1)))), ((cell_far (p := ⟨gb624, _, none⟩) (by first | exact Nat.ne_of_lt (Nat.lt_of_lt_of_le (by have := World.block_lt_of_cell? _ _ hw620_1; first | rwa [add_block] at this | exact this) GW624.out) | (rw [add_block]; exact Nat.ne_of_lt (Nat.lt_of_lt_of_le (by have := World.block_lt_of_cell? _ _ hw620_1; first | rwa [add_block] at this | exact this) GW624.out)) | (show (Addr.add _ _).block ≠ _; rw [add_block]; exact Nat.ne_of_lt (Nat.lt_of_lt_of_le (by have := World.block_lt_of_cell? _ _ hw620_1; first | rwa [add_block] at this | exact this) GW624.out)) | (dsimp only; exact Nat.ne_of_lt (Nat.lt_of_lt_of_le (by have := World.block_lt_of_cell? _ _ hw620_1; first | rwa [add_block] at this | exact this) GW624.out))) _).trans (((cell_far (p := ⟨gb624, _, none⟩) (by first | exact Nat.ne_of_lt (Nat.lt_of_lt_of_le (by have := World.block_lt_of_cell? _ _ hw620_1; first | rwa [add_block] at this | exact this) GW624.out) | (rw [add_block]; exact Nat.ne_of_lt (Nat.lt_of_lt_of_le (by have := World.block_lt_of_cell? _ _ hw620_1; first | rwa [add_block] at this | exact this) GW624.out)) | (show (Addr.add _ _).block ≠ _; rw [add_block]; exact Nat.ne_of_lt (Nat.lt_of_lt_of_le (by have := World.block_lt_of_cell? _ _ hw620_1; first | rwa [add_block] at this | exact this) GW624.out)) | (dsimp only; exact Nat.ne_of_lt (Nat.lt_of_lt_of_le (by have := World.block_lt_of_cell? _ _ hw620_1; first | rwa [add_block] at this | exact this) GW624.out))) _).trans (hHeld.2.2.2))))⟩ (fun hHeld => ?_)
          clear hK K
          refine pw_ 11 14 (tl_ 12 4095) rfl rfl ?_
          refine done_ (done_of HT_.out (g0_)) ?_
          have hnb106 := NB608_599.out
          have hnc106 := NB599_608.out
          have hnb107 := NB608_619.out
          have hnc107 := NB619_608.out
          have hnb108 := NB608_624.out
          have hnc108 := NB624_608.out
          obtain ⟨hcz109_0, hcz109_1, hfz109_0, hfz109_1⟩ := blk2_ BK608
          have hnb110 := NB624_599.out
          have hnc110 := NB599_624.out
          have hnb111 := NB624_619.out
          have hnc111 := NB619_624.out
          obtain ⟨hcz112_0, hcz112_1, hfz112_0, hfz112_1⟩ := blk2_ BK624
          try go_wp2_with (first | ((with_reducible refine gate_callee (f := 76) rfl ?_); refine goesL_ (some 76) rfl rfl Try.func76 k_ rfl #[.agg #[.int .i64 x609000_2, .int .i64 x609001_2], .agg #[.int .i64 t621, .int .i64 t622]] rfl (g2_) ?_; (with_reducible refine (spec_PlusOf.calls k2 x609000_2 x609001_2 t621 t622 t625 t626 t627 _ A30.out).mono ?_); rintro e w113 ⟨rfl, hb⟩; refine ⟨_, rfl, ?_⟩; replace HO_6 := Aside0.mk (Kd.R_below (g164_) hb); replace HO_7 := Aside0.mk (Kd.R_below (g165_) hb); replace BK599 := Aside0.mk (blk_below (g := gb599) (o := .cells #[.slice (some ad607) l0_0.length c0_0, .slice (some ad613) l0_1.length c0_1] 26 (0, 0)) (g166_) hb); replace BK608 := Aside0.mk (blk_below (g := gb608) (o := .cells #[.int .i64 x609000_2, .int .i64 x609001_2] 36 (0, 0)) (g167_) hb); replace BK619 := Aside0.mk (blk_below (g := gb619) (o := .cells #[.int .i64 t616, .int .i64 t617] 36 (0, 0)) (g168_) hb); replace BK624 := Aside0.mk (blk_below (g := gb624) (o := .cells #[.int .i64 t621, .int .i64 t622] 36 (0, 0)) (g169_) hb); replace HB := Aside0.mk (below_step (qz0_) hb); (try clear hb); (try clear hk hi)) | ((with_reducible refine gate_dst (N := 15) rfl ?_); refine bx_ (N := 15) #[.int .i64 0, .int .i64 0] 36 ?_; intro gb628 hg w114 hbox hb; replace HO_6 := Aside0.mk (Kd.R_below (Kd.R_elderB (uf1_ HO_6) gb628 (Nat.le_of_eq hg.symm)) hb); replace HO_7 := Aside0.mk (Kd.R_below (uf1_ HO_7) hb); have BK628 := Aside0.mk (hbox); have GW628 := Aside0.mk ((g6_ : w.heap.size ≤ gb628)); have GE628 := Aside0.mk ((g6_ : w.heap.size ≤ gb628)); replace HB := Aside0.mk (below_step (qz0_) hb); have NB599_628 := Aside0.mk ((g25_ : gb599 ≠ gb628)); have NB628_599 := Aside0.mk ((g26_ : gb628 ≠ gb599)); replace BK599 := bb_ BK599 hb; have NB608_628 := Aside0.mk ((g27_ : gb608 ≠ gb628)); have NB628_608 := Aside0.mk ((g28_ : gb628 ≠ gb608)); replace BK608 := bb_ BK608 hb; have NB619_628 := Aside0.mk ((g39_ : gb619 ≠ gb628)); have NB628_619 := Aside0.mk ((g40_ : gb628 ≠ gb619)); replace BK619 := bb_ BK619 hb; have NB624_628 := Aside0.mk ((g170_ : gb624 ≠ gb628)); have NB628_624 := Aside0.mk ((g171_ : gb628 ≠ gb624)); replace BK624 := bb_ BK624 hb; clear hb hbox hg; have hnb115 := NB628_599.out; have hnc115 := NB599_628.out; have hnb116 := NB628_608.out; have hnc116 := NB608_628.out; have hnb117 := NB628_619.out; have hnc117 := NB619_628.out; have hnb118 := NB628_624.out; have hnc118 := NB624_628.out; obtain ⟨hcz119_0, hcz119_1, hfz119_0, hfz119_1⟩ := blk2_ BK628) | ((with_reducible refine gate_dst (N := 85) rfl ?_); refine Kd.R_lit k36 _ 36 ?hg (N := 85) ?hd (xs := ([] : List (S36))) (inner := []) (ok := fun _ => True) (okp := fun _ => True) ?hr ?hp (fun _ hk => hk) trivial (Below.refl _ _) (Nat.le_refl _) (by simp) ?_; (case hd => rfl); (case hg => rfl); (case hr => first | (go_simp; done) | (go_simp; rfl)); (case hp => exact (Reps.none _ _)); intro v633 w120 ho121 hb hg_ hnew_; clear hg_ hnew_; (first | rw [← Ny632.out] at ho121 | (simp only [Int.reduceToNat] at ho121; rw [← Ny632.out] at ho121)); replace HO_7 := Aside0.mk (Kd.R_below (by (with_reducible repeat (first | apply Kd.R_alloc | apply Kd.R_drewN | apply Kd.R_drew)); exact (Kd.R_mono (Kd.R_far (p := ⟨gb628, 1, none⟩) (Kd.R_far (p := ⟨gb628, 0, none⟩) (Kd.R_types HO_7.out BK628.out (by decide)) (fun _ hk => hk.2) (.int .i64 t625)) (fun _ hk => hk.2) (.int .i64 t626)) (fun _ h_ => h_.1))) hb); have HO634 := Aside0.mk (Kd.R_lower (Kd.R_newB (Kd.R_newB (Kd.R_newB (Kd.R_newB (Kd.R_new' ho121 (Kd.R_lt (g101_))) (g := gb608) (o := .cells #[.int .i64 x609000_2, .int .i64 x609001_2] 36 (0, 0)) (g102_)) (g := gb619) (o := .cells #[.int .i64 t616, .int .i64 t617] 36 (0, 0)) (g103_)) (g := gb624) (o := .cells #[.int .i64 t621, .int .i64 t622] 36 (0, 0)) (g104_)) (g := gb628) (o := .cells #[.int .i64 t625, .int .i64 t626] 36 (0, 0)) (g105_)) (below_size (qz0_))); replace HO_6 := Aside0.mk (Kd.R_elder' (g101_) (Kd.R_base ho121) hb); replace BK599 := Aside0.mk (blk_below (g := gb599) (o := .cells #[.slice (some ad607) l0_0.length c0_0, .slice (some ad613) l0_1.length c0_1] 26 (0, 0)) (by (with_reducible repeat (first | refine blk_drewN ?_ _ | refine blk_drew ?_ | refine blk_alloc ?_ _)); refine blk_far ?_ NB599_628.out _; (with_reducible repeat (first | refine blk_drewN ?_ _ | refine blk_drew ?_ | refine blk_alloc ?_ _)); refine blk_far ?_ NB599_628.out _; (with_reducible repeat (first | refine blk_drewN ?_ _ | refine blk_drew ?_ | refine blk_alloc ?_ _)); exact BK599.out) hb); replace BK608 := Aside0.mk (blk_below (g := gb608) (o := .cells #[.int .i64 x609000_2, .int .i64 x609001_2] 36 (0, 0)) (g102_) hb); replace BK619 := Aside0.mk (blk_below (g := gb619) (o := .cells #[.int .i64 t616, .int .i64 t617] 36 (0, 0)) (g103_) hb); replace BK624 := Aside0.mk (blk_below (g := gb624) (o := .cells #[.int .i64 t621, .int .i64 t622] 36 (0, 0)) (g104_) hb); replace BK628 := Aside0.mk (blk_below (g := gb628) (o := .cells #[.int .i64 t625, .int .i64 t626] 36 (0, 0)) (g105_) hb); replace HB := Aside0.mk (below_step (qz0_) hb); clear hb ho121))
          go_ret2
          exact ⟨_, g4_, by (with_reducible repeat (first | apply Kd.R_alloc | apply Kd.R_drewN | apply Kd.R_drew)); exact Kd.R_mono HO634.out (fun _ hk => trivial), qz0_⟩
       ·rw [if_neg c20] at H
        have c20b0 := decide_eq_false c20
        clear c20
        obtain ⟨c122, H⟩ := pos_ H
        have LMc122 := Aside0.mk c122
        clear c122
        obtain ⟨y609, hy609⟩ : ∃ y_ : List (S36), y_ = (x6_1 ++ [(⟨x609000_2, x609001_2⟩ : S36)]) := ⟨_, rfl⟩
        replace H : (spec_GetsOf.l0 k2 l1 y609 t604 (wrap64 (x8_1 + 1)) l0_0 l0_1) = some (r1, r2) := by first | (rw [hy609]; with_reducible exact H) | (have H2_ := (Option.bind_some _ _).symm.trans H; rw [hy609]; with_reducible exact H2_) | (have H2_ := (Option.bind_some _ _).symm.trans H; with_reducible exact H2_) | with_reducible exact H | (rw [hy609]; exact H) | exact H
        have Ny609 := Aside0.mk hy609
        clear hy609
        have H' := Aside0.mk H
        clear H
        have hnb123 := NB608_599.out
        have hnc123 := NB599_608.out
        obtain ⟨hcz124_0, hcz124_1, hfz124_0, hfz124_1⟩ := blk2_ BK608
        go_wp2_with (first | ((with_reducible refine gate_builtin (b := .append) (xs := #[.tmp 87, .tmp 89]) rfl ?_); at_builtin; refine Kd.R_append k36 (w0 := w) w.heap.size rfl (.tmp 87) (.tmp 89) 28 36 (.agg #[(.int .i64 0), (.int .i64 0)]) 16 rfl Try.underlying28 info36 rfl (by decide) (by omega) u6 x6_1 (⟨x609000_2, x609001_2⟩ : S36) [.int .i64 x609000_2, .int .i64 x609001_2] (fun k_ => k_ ≠ gb608) (fun _ => False) rfl rfl ?aP (fun _ hk => hk.elim) ?aF ?aO ?aB ?aS ?aL ?_; (case aP => exact k36_mkM _ _ _ (⟨x609000_2, x609001_2⟩ : S36)); (case aB => exact (qz0_)); (case aF => exact (fun k_ hk => Kd.freshB (g := gb608) (o := .cells #[.int .i64 x609000_2, .int .i64 x609001_2] 36 (0, 0)) (uf0_ BK608) k_ hk)); (case aO => exact (uf1_ HO_6)); (case aS => exact (below_size (qz0_))); (case aL => have := LMc122.out; omega); intro v610 w125 ho hb hg hat; rw [← Ny609.out] at ho; replace HO_7 := Aside0.mk (Kd.R_over' (uf1_ HO_7) (Kd.R_typed (uf1_ HO_6)) (by decide) hg); replace BK599 := Aside0.mk (blk_grown (g := gb599) (o := .cells #[.slice (some ad607) l0_0.length c0_0, .slice A0_1 l0_1.length c0_1] 26 (0, 0)) (uf0_ BK599) hg (Kd.R_ne HO_6.out BK599.out (by decide))); replace BK608 := Aside0.mk (blk_grown (g := gb608) (o := .cells #[.int .i64 x609000_2, .int .i64 x609001_2] 36 (0, 0)) (uf0_ BK608) hg (Kd.R_away HO_6.out (fun _ hk => hk))); replace HB := Aside0.mk (hb); have HO611 := Aside0.mk (ho); clear HO_6; clear ho hb hg hat))
        go_roundg k2
        case measure => have := HK1.out; have := HK2.out; omega
        case rel => exact ⟨(y609), (wrap64 (x8_1 + 1)), (g3_), H', ⟨g34_⟩, ⟨by (with_reducible repeat (first | apply Kd.R_alloc | apply Kd.R_drewN | apply Kd.R_drew)); exact Kd.R_mono HO611.out (fun _ hk => trivial)⟩, ⟨uf1_ HO_7⟩, ⟨uf0_ BK599⟩, ⟨qz0_⟩⟩
    ·rw [if_neg c13] at H
     have c13b0 := decide_eq_false c13
     clear c13
     simp only [Option.some.injEq, Prod.mk.injEq] at H
     obtain ⟨rfl, rfl⟩ := H
     go_wp2
     go_ret2
     exact ⟨_, g4_, uf1_ HO_6, qz0_⟩
 ·replace c4 := Bool.eq_false_iff.mpr c4
  subst c4
  replace H := ifn_ H
  simp only [Option.some.injEq, Prod.mk.injEq] at H
  obtain ⟨rfl, rfl⟩ := H
  go_enter Try.func30, Try.ntmps30
  go_wp2_with (first | ((with_reducible refine gate_dst (N := 2) rfl ?_); refine bx_ (N := 2) #[.slice A0_0 l0_0.length c0_0, .slice A0_1 l0_1.length c0_1] 26 ?_; intro gb599 hg w126 hbox hb; have BK599 := Aside0.mk (hbox); have GW599 := Aside0.mk ((g6_ : w.heap.size ≤ gb599)); have GE599 := Aside0.mk ((g6_ : w.heap.size ≤ gb599)); replace HB := Aside0.mk (below_step (qz0_) hb); clear hb hbox hg) | ((with_reducible refine gate_dst (N := 17) rfl ?_); refine Kd.R_lit k36 _ 36 ?hg (N := 17) ?hd (xs := ([] : List (S36))) (inner := []) (ok := fun _ => True) (okp := fun _ => True) ?hr ?hp (fun _ hk => hk) trivial (Below.refl _ _) (Nat.le_refl _) (by simp) ?_; (case hd => rfl); (case hg => rfl); (case hr => first | (go_simp; done) | (go_simp; rfl)); (case hp => exact (Reps.none _ _)); intro v601 w127 ho128 hb hg_ hnew_; clear hg_ hnew_; (first | rw [← Ny600.out] at ho128 | (simp only [Int.reduceToNat] at ho128; rw [← Ny600.out] at ho128)); have HO602 := Aside0.mk (Kd.R_lower ho128 (below_size (qz0_))); replace BK599 := bb_ BK599 hb; replace HB := Aside0.mk (below_step (qz0_) hb); clear hb ho128; obtain ⟨hcz129_0, hcz129_1, hfz129_0, hfz129_1⟩ := blk2_ BK599) | ((with_reducible refine gate_callee (f := 21) rfl ?_); refine goesL_ (some 20) rfl rfl Try.func21 k_ rfl #[.agg #[.slice A0_0 l0_0.length c0_0, .slice A0_1 l0_1.length c0_1], .slice A1 l1.length c1] rfl (g2_) ?_; (with_reducible refine (spec_PaysOk.calls k _ _ l0_0 _ _ l0_1 _ _ l1 false _ ?side1 ?side2 ?side3 ?side4 ?side5 ?side6 A3.out).mono ?_); (case side1 => exact uf4_ HR0_0); (case side2 => exact HC0_0.out); (case side3 => exact uf4_ HR0_1); (case side4 => exact HC0_1.out); (case side5 => exact uf4_ HR1); (case side6 => exact HC1.out); rintro e w130 ⟨rfl, hb⟩; refine ⟨_, rfl, ?_⟩; replace HO602 := Aside0.mk (Kd.R_below (uf1_ HO602) hb); replace BK599 := bb_ BK599 hb; replace HB := Aside0.mk (below_step (qz0_) hb); (try clear hb); (try clear hk hi)))
  go_ret2
  exact ⟨_, g4_, uf1_ HO602, qz0_⟩
mutual
def spec_LeadsTo.l0 : Nat → List (S36) → Bool → List (S36) → List (S36) → Int → Option ((List (S36)) × Bool)
 | 0, _, _, _, _, _ => none
 | k + 1, x6, x7, x8, x9, x10 => if x10 < (x6.length : Int) then (spec_LeadsTo.j1 k x6 x7 x8 x9 x10 x7) else (spec_LeadsTo.j1 k x6 x7 x8 x9 x10 false)
def spec_LeadsTo.j1 : Nat → List (S36) → Bool → List (S36) → List (S36) → Int → Bool → Option ((List (S36)) × Bool)
 | 0, _, _, _, _, _, _ => none
 | k + 1, x6, x7, x8, x9, x10, x26 => if x26 = true then (if 0 ≤ x10 then (if x10 < (x6.length : Int) then (if x10 < (x8.length : Int) then ((spec_BeforeOf.f k ((rd_T36 x6 x10).f0) ((rd_T36 x6 x10).f1) ((rd_T36 x8 x10).f0) ((rd_T36 x8 x10).f1)).bind fun t982 => (if t982 < 0 then (if x9.length < 8796093022208 then (spec_LeadsTo.l0 k x6 x7 x8 (x9 ++ [(⟨(rd_T36 x6 x10).f0, (rd_T36 x6 x10).f1⟩ : S36)]) (wrap64 (x10 + 1))) else (none)) else (if x9.length < 8796093022208 then (spec_LeadsTo.l0 k x6 x7 x8 (x9 ++ [(⟨(rd_T36 x8 x10).f0, (rd_T36 x8 x10).f1⟩ : S36)]) (wrap64 (x10 + 1))) else (none)))) else (none)) else (none)) else (none)) else (some (x9, x7))
end
def spec_LeadsTo.f (k : Nat) (l0_0 : List Int) (l0_1 : List (List Int)) (l1 : List (S36)) : Option ((List (S36)) × Bool) := (spec_GetsOf.f k l0_0 l0_1 l1).bind fun bt970 => ((spec_AllPaid.f k l0_0 l0_1).bind fun t974 => (spec_LeadsTo.l0 k bt970.1 bt970.2 t974 (([] : List (S36))) 0))
theorem spec_LeadsTo.mq {p : Prop} (h : p := by
 repeat' first
 | (with_reducible exact ih0 _ _ _ _ _)
 | (with_reducible exact ih1 _ _ _ _ _ _)
 | (with_reducible exact spec_AllPaid.mono _ _ _)
 | (with_reducible exact spec_BeforeOf.mono _ _ _ _ _)
 | (with_reducible exact spec_GetsOf.mono _ _ _ _)
 | (with_reducible exact LeO.refl _)
 | (with_reducible exact LeO.none _)
 | (with_reducible refine LeO.ite ?_ ?_)
 | (with_reducible refine LeO.bind ?_ (fun _ => ?_))
 | exact ih0 _ _ _ _ _
 | exact ih1 _ _ _ _ _ _
 | exact spec_AllPaid.mono _ _ _
 | exact spec_BeforeOf.mono _ _ _ _ _
 | exact spec_GetsOf.mono _ _ _ _
 | exact LeO.none _
 | refine LeO.ite ?_ ?_
 | refine LeO.bind ?_ (fun _ => ?_)) : p := h
theorem spec_LeadsTo.mono_l : ∀ k, (∀ y0 y1 y2 y3 y4, LeO (spec_LeadsTo.l0 k y0 y1 y2 y3 y4) (spec_LeadsTo.l0 (k + 1) y0 y1 y2 y3 y4)) ∧ (∀ y0 y1 y2 y3 y4 y5, LeO (spec_LeadsTo.j1 k y0 y1 y2 y3 y4 y5) (spec_LeadsTo.j1 (k + 1) y0 y1 y2 y3 y4 y5))
 | 0 => ⟨fun _ _ _ _ _ r h => by simp [spec_LeadsTo.l0] at h, fun _ _ _ _ _ _ r h => by simp [spec_LeadsTo.j1] at h⟩
 | k + 1 => by
  obtain ⟨ih0, ih1⟩ := spec_LeadsTo.mono_l k
  refine ⟨?_, ?_⟩
  ·intro y0 y1 y2 y3 y4
   unfold spec_LeadsTo.l0
   exact spec_LeadsTo.mq
  ·intro y0 y1 y2 y3 y4 y5
   unfold spec_LeadsTo.j1
   exact spec_LeadsTo.mq
theorem spec_LeadsTo.mono : ∀ a0 a1 a2 k, LeO (spec_LeadsTo.f k a0 a1 a2) (spec_LeadsTo.f (k + 1) a0 a1 a2) := by
 intro a0 a1 a2 k
 obtain ⟨ih0, ih1⟩ := spec_LeadsTo.mono_l k
 unfold spec_LeadsTo.f
 exact spec_LeadsTo.mq
def spec_LeadsTo.T7 : Bool × List (List Nat × List Nat) := (true, [([], []), ([], []), ([0, 1], [0, 1]), ([2], [2]), ([], []), ([], []), ([4, 5], [4, 5]), ([6], [6]), ([3, 7], [3, 7]), ([8], [8])])
def spec_LeadsTo.B7 : List Nat := [0, 0, 3, 7, 0, 0, 48, 112, 255, 511]
theorem spec_LeadsTo.tab7 : rtab .any (opsOf Try.f47 7) = spec_LeadsTo.T7 := by kernel_rfl
theorem spec_LeadsTo.bits7 : waitsOk spec_LeadsTo.T7.2 spec_LeadsTo.B7 = true := by kernel_rfl
theorem qz52_ {p : Prop} (h : p := by repeat (first | (with_reducible first | exact HB.out | apply below_alloc | apply pw_below_drewN | apply below_drew1 | refine below_set ?_ GE969.out) | exact HB.out)) : p := h
set_option maxHeartbeats 8000000 in
set_option maxRecDepth 100000 in
theorem spec_LeadsTo.calls (k : Nat) (A0_0 : Option Addr) (c0_0 : Nat) (l0_0 : List Int) (A0_1 : Option Addr) (c0_1 : Nat) (l0_1 : List (List Int)) (A1 : Option Addr) (c1 : Nat) (l1 : List (S36)) (r1 : List (S36)) (r2 : Bool) (w : World) (hr0_0 : Kd.C (Kd.int .i64) w A0_0 l0_0.length l0_0) (hc0_0 : l0_0.length ≤ c0_0) (hr0_1 : Kd.C (Kd.slice 3 (Kd.int .i64)) w A0_1 l0_1.length l0_1) (hc0_1 : l0_1.length ≤ c0_1) (hr1 : Kd.C k36 w A1 l1.length l1) (hc1 : l1.length ≤ c1) (h : spec_LeadsTo.f k l0_0 l0_1 l1 = some (r1, r2)) :
  Calls Try.prog 47 #[.agg #[.slice A0_0 l0_0.length c0_0, .slice A0_1 l0_1.length c0_1], .slice A1 l1.length c1] w fun e w' => ∃ v0_ : Value, e = .returned (.tuple #[v0_, .bool r2]) ∧ Kd.R k36 36 w' w.heap.size (fun _ => True) v0_ r1 ∧ Below w.heap.size w w' := by
 have hu26 := Try.underlying26
 have hu36 := Try.underlying36
 have HR0_0 := Aside0.mk hr0_0
 have HC0_0 := Aside0.mk hc0_0
 clear hr0_0 hc0_0
 have HR0_1 := Aside0.mk hr0_1
 have HC0_1 := Aside0.mk hc0_1
 clear hr0_1 hc0_1
 have HR1 := Aside0.mk hr1
 have HC1 := Aside0.mk hc1
 clear hr1 hc1
 have HB := Aside0.mk (Below.refl w.heap.size w)
 have H : ((spec_GetsOf.f k l0_0 l0_1 l1).bind fun bt970 => ((spec_AllPaid.f k l0_0 l0_1).bind fun t974 => (spec_LeadsTo.l0 k bt970.1 bt970.2 t974 (([] : List (S36))) 0))) = some (r1, r2) := h
 clear h
 replace H := Option.bind_eq_some_iff.mp H
 obtain ⟨⟨t970, t973⟩, A30, H⟩ := H
 replace H : ((spec_AllPaid.f k l0_0 l0_1).bind fun t974 => (spec_LeadsTo.l0 k t970 t973 t974 (([] : List (S36))) 0)) = some (r1, r2) := H
 have A3 := Aside0.mk A30
 clear A30
 obtain ⟨t974, A4, H⟩ := bind_ H
 obtain ⟨y977, hy977⟩ : ∃ y_ : List (S36), y_ = (([] : List (S36))) := ⟨_, rfl⟩
 replace H : (spec_LeadsTo.l0 k t970 t973 t974 y977 0) = some (r1, r2) := by first | (rw [hy977]; with_reducible exact H) | (have H2_ := (Option.bind_some _ _).symm.trans H; rw [hy977]; with_reducible exact H2_) | (have H2_ := (Option.bind_some _ _).symm.trans H; with_reducible exact H2_) | with_reducible exact H | (rw [hy977]; exact H) | exact H
 have Ny977 := Aside0.mk hy977
 clear hy977
 have H' := Aside0.mk H
 clear H
 go_enter Try.func47, Try.ntmps47
 go_wp2_with (first | ((with_reducible refine gate_dst (N := 2) rfl ?_); refine bx_ (N := 2) #[.slice A0_0 l0_0.length c0_0, .slice A0_1 l0_1.length c0_1] 26 ?_; intro gb969 hg w5 hbox hb; have BK969 := Aside0.mk (hbox); have GW969 := Aside0.mk ((by rw [hg]; exact (below_size (qz52_)) : w.heap.size ≤ gb969)); have GE969 := Aside0.mk ((by rw [hg]; exact (below_size (qz52_)) : w.heap.size ≤ gb969)); replace HB := Aside0.mk (below_step (qz52_) hb); clear hb hbox hg; obtain ⟨hcz6_0, hcz6_1, hfz6_0, hfz6_1⟩ := blk2_ BK969) | ((with_reducible refine gate_callee (f := 30) rfl ?_); refine goesL_ (some 14) rfl rfl Try.func30 k_ rfl #[.agg #[.slice A0_0 l0_0.length c0_0, .slice A0_1 l0_1.length c0_1], .slice A1 l1.length c1] rfl (g2_) ?_; (with_reducible refine (spec_GetsOf.calls k _ _ l0_0 _ _ l0_1 _ _ l1 t970 t973 _ ?side1 ?side2 ?side3 ?side4 ?side5 ?side6 A3.out).mono ?_); (case side1 => exact uf4_ HR0_0); (case side2 => exact HC0_0.out); (case side3 => exact uf4_ HR0_1); (case side4 => exact HC0_1.out); (case side5 => exact uf4_ HR1); (case side6 => exact HC1.out); rintro e w7 ⟨v971, rfl, ho0, hb⟩; refine ⟨_, rfl, ?_⟩; have HO972 := Aside0.mk (Kd.R_lower ho0 (below_size (qz52_))); replace BK969 := bb_ BK969 hb; replace HB := Aside0.mk (below_step (qz52_) hb); (try clear hb); (try clear hk hi); (try clear ho0); obtain ⟨hcz8_0, hcz8_1, hfz8_0, hfz8_1⟩ := blk2_ BK969) | ((with_reducible refine gate_callee (f := 48) rfl ?_); refine goesL_ (some 18) rfl rfl Try.func48 k_ rfl #[.agg #[.slice A0_0 l0_0.length c0_0, .slice A0_1 l0_1.length c0_1]] rfl (g2_) ?_; (with_reducible refine (spec_AllPaid.calls k _ _ l0_0 _ _ l0_1 t974 _ ?side1 ?side2 ?side3 ?side4 A4.out).mono ?_); (case side1 => exact uf4_ HR0_0); (case side2 => exact HC0_0.out); (case side3 => exact uf4_ HR0_1); (case side4 => exact HC0_1.out); rintro e w9 ⟨v975, rfl, ho0, hb⟩; refine ⟨_, rfl, ?_⟩; have HO976 := Aside0.mk (Kd.R_lower (Kd.R_new' ho0 (Kd.R_lt (uf1_ HO972))) (below_size (qz52_))); replace HO972 := Aside0.mk (Kd.R_elder' (uf1_ HO972) (Kd.R_base ho0) hb); replace BK969 := bb_ BK969 hb; replace HB := Aside0.mk (below_step (qz52_) hb); (try clear hb); (try clear hk hi); (try clear ho0)) | ((with_reducible refine gate_dst (N := 19) rfl ?_); refine Kd.R_lit k36 _ 36 ?hg (N := 19) ?hd (xs := ([] : List (S36))) (inner := []) (ok := fun _ => True) (okp := fun _ => True) ?hr ?hp (fun _ hk => hk) trivial (Below.refl _ _) (Nat.le_refl _) (by simp) ?_; (case hd => rfl); (case hg => rfl); (case hr => first | (go_simp; done) | (go_simp; rfl)); (case hp => exact (Reps.none _ _)); intro v978 w10 ho11 hb hg_ hnew_; clear hg_ hnew_; (first | rw [← Ny977.out] at ho11 | (simp only [Int.reduceToNat] at ho11; rw [← Ny977.out] at ho11)); have HO979 := Aside0.mk (Kd.R_lower (Kd.R_new' (Kd.R_new' ho11 (Kd.R_lt (uf1_ HO972))) (Kd.R_lt (uf1_ HO976))) (below_size (qz52_))); replace HO972 := Aside0.mk (Kd.R_elder' (uf1_ HO972) (Kd.R_base ho11) hb); replace HO976 := Aside0.mk (Kd.R_elder' (uf1_ HO976) (Kd.R_base ho11) hb); replace BK969 := bb_ BK969 hb; replace HB := Aside0.mk (below_step (qz52_) hb); clear hb ho11))
 go_loopg [9, 10] k (fun kq v9 v10 w' => ∃ (x9_1 : List (S36)) (x10_1 : Int), v10 = .int .i64 x10_1 ∧ Aside0 (spec_LeadsTo.l0 kq t970 t973 t974 x9_1 x10_1 = some (r1, r2)) ∧ Aside0 (kq ≤ k) ∧ Aside0 (Kd.R k36 36 w' w.heap.size (fun k_ => some k_ ≠ (v975 : Value).ownBlock ∧ some k_ ≠ (v9 : Value).ownBlock) v971 t970) ∧ Aside0 (Kd.R k36 36 w' w.heap.size (fun k_ => some k_ ≠ (v971 : Value).ownBlock ∧ some k_ ≠ (v9 : Value).ownBlock) v975 t974) ∧ Aside0 (Kd.R k36 36 w' w.heap.size (fun k_ => some k_ ≠ (v971 : Value).ownBlock ∧ some k_ ≠ (v975 : Value).ownBlock) v9 x9_1) ∧ Aside0 (w'.heap[gb969]? = some (.cells #[(.slice A0_0 l0_0.length c0_0), (.slice A0_1 l0_1.length c0_1)] 26 (0, 0))) ∧ Aside0 (Below w.heap.size w w'))
 case atStart => exact ⟨(y977), (0), (g3_), H', ⟨Nat.le_refl _⟩, ⟨by (with_reducible repeat (first | apply Kd.R_alloc | apply Kd.R_drewN | apply Kd.R_drew)); exact Kd.R_mono HO972.out (fun _ hk => ⟨hk.1.2, hk.2⟩)⟩, ⟨by (with_reducible repeat (first | apply Kd.R_alloc | apply Kd.R_drewN | apply Kd.R_drew)); exact Kd.R_mono HO976.out (fun _ hk => ⟨hk.1.2, hk.2⟩)⟩, ⟨by (with_reducible repeat (first | apply Kd.R_alloc | apply Kd.R_drewN | apply Kd.R_drew)); exact Kd.R_mono HO979.out (fun _ hk => ⟨hk.1.2, hk.2⟩)⟩, ⟨uf0_ BK969⟩, ⟨qz52_⟩⟩
 case round =>
  clear H'
  try clear c1
  try clear p2
  try clear c3
  try clear c4
  try clear hcz6_0
  try clear hcz6_1
  try clear hcz8_0
  try clear hcz8_1
  try clear hfz6_0
  try clear hfz6_1
  try clear hfz8_0
  try clear hfz8_1
  obtain ⟨x9_1, x10_1, rfl, HA, HK1, HO_6, HO_8, HO_9, BK969, HB⟩ := hrel
  cases gk with
  | zero => exact absurd HA.out (by simp [spec_LeadsTo.l0])
  | succ k1 =>
   have H := HA.out
   clear HA
   simp only [spec_LeadsTo.l0] at H
   have HC12 := Aside0.mk H
   clear H
   go_upto_region 5 with (fail)
   go_cut [26] (fun v26 wc => ∃ (kq : Nat) (x26_11 : Bool), v26 = .bool x26_11 ∧ Aside0 (spec_LeadsTo.j1 kq t970 t973 t974 x9_1 x10_1 x26_11 = some (r1, r2)) ∧ Aside0 (kq ≤ k1) ∧ Aside0 (Kd.R k36 36 wc w.heap.size (fun k_ => some k_ ≠ (v975 : Value).ownBlock ∧ some k_ ≠ (u9 : Value).ownBlock) v971 t970) ∧ Aside0 (Kd.R k36 36 wc w.heap.size (fun k_ => some k_ ≠ (v971 : Value).ownBlock ∧ some k_ ≠ (u9 : Value).ownBlock) v975 t974) ∧ Aside0 (Kd.R k36 36 wc w.heap.size (fun k_ => some k_ ≠ (v971 : Value).ownBlock ∧ some k_ ≠ (v975 : Value).ownBlock) u9 x9_1) ∧ Aside0 (wc.heap[gb969]? = some (.cells #[(.slice A0_0 l0_0.length c0_0), (.slice A0_1 l0_1.length c0_1)] 26 (0, 0))) ∧ Aside0 (Below w.heap.size w wc))
   case first =>
    have H := HC12.out
    clear HC12
    by_cases c13 : x10_1 < (t970.length : Int)
    ·rw [if_pos c13] at H
     have c13b0 := decide_eq_true c13
     clear c13
     (first | rw [c13b0] | (simp only [i64_w, i32_w]; rw [c13b0]) | skip)
     have H' := Aside0.mk H
     clear H
     obtain ⟨Ao14, co14, eo14⟩ := Kd.R_slice HO_6.out
     subst eo14
     go_wp2
     go_meet
     case rel => exact ⟨_, (t973), (g3_), H', ⟨g30_⟩, ⟨uf1_ HO_6⟩, ⟨uf1_ HO_8⟩, ⟨uf1_ HO_9⟩, ⟨uf0_ BK969⟩, ⟨qz52_⟩⟩
    ·rw [if_neg c13] at H
     have c13b0 := decide_eq_false c13
     clear c13
     (first | rw [c13b0] | (simp only [i64_w, i32_w]; rw [c13b0]) | skip)
     have H' := Aside0.mk H
     clear H
     obtain ⟨Ao15, co15, eo15⟩ := Kd.R_slice HO_6.out
     subst eo15
     go_wp2
     go_meet
     case rel => exact ⟨_, (false), (g3_), H', ⟨g30_⟩, ⟨uf1_ HO_6⟩, ⟨uf1_ HO_8⟩, ⟨uf1_ HO_9⟩, ⟨uf0_ BK969⟩, ⟨qz52_⟩⟩
   case rest =>
    clear HC12
    try clear c1
    try clear p2
    try clear c3
    try clear c4
    try clear c13
    try clear c13b0
    try clear hcz6_0
    try clear hcz6_1
    try clear hcz8_0
    try clear hcz8_1
    try clear hfz6_0
    try clear hfz6_1
    try clear hfz8_0
    try clear hfz8_1
    try clear p2
    obtain ⟨kq, x26_11, rfl, HA, HJ11, HO_6, HO_8, HO_9, BK969, HB⟩ := hcut
    cases kq with
    | zero => exact absurd HA.out (by simp [spec_LeadsTo.j1])
    | succ kj11 =>
     have H := HA.out
     clear HA
     simp only [spec_LeadsTo.j1] at H
     by_cases c16 : x26_11 = true
     ·subst c16
      replace H := ifp_ H
      obtain ⟨c17, H⟩ := pos_ H
      have c17b0 := decide_eq_true c17
      clear c17
      obtain ⟨c18, H⟩ := pos_ H
      have c18b0 := decide_eq_true c18
      clear c18
      obtain ⟨c19, H⟩ := pos_ H
      have c19b0 := decide_eq_true c19
      clear c19
      obtain ⟨t982, A20, H⟩ := bind_ H
      by_cases c21 : t982 < 0
      ·rw [if_pos c21] at H
       have c21b0 := decide_eq_true c21
       clear c21
       obtain ⟨c22, H⟩ := pos_ H
       have LMc22 := Aside0.mk c22
       clear c22
       obtain ⟨y984, hy984⟩ : ∃ y_ : List (S36), y_ = (x9_1 ++ [(⟨(rd_T36 t970 x10_1).f0, (rd_T36 t970 x10_1).f1⟩ : S36)]) := ⟨_, rfl⟩
       replace H : (spec_LeadsTo.l0 kj11 t970 t973 t974 y984 (wrap64 (x10_1 + 1))) = some (r1, r2) := by first | (rw [hy984]; with_reducible exact H) | (have H2_ := (Option.bind_some _ _).symm.trans H; rw [hy984]; with_reducible exact H2_) | (have H2_ := (Option.bind_some _ _).symm.trans H; with_reducible exact H2_) | with_reducible exact H | (rw [hy984]; exact H) | exact H
       have Ny984 := Aside0.mk hy984
       clear hy984
       have H' := Aside0.mk H
       clear H
       try go_wp2
       replace HO_6 := Aside0.mk (Kd.R_drew HO_6.out)
       replace HO_8 := Aside0.mk (Kd.R_drew HO_8.out)
       replace HO_9 := Aside0.mk (Kd.R_drew HO_9.out)
       replace BK969 := Aside0.mk (blk_drew BK969.out)
       replace HB := Aside0.mk (below_drew1 HB.out)
       obtain ⟨Ao24, co24, eo24⟩ := Kd.R_slice HO_6.out
       (first | subst eo24 | (injection eo24 with f1_ f2_ f3_; have f4_ := f1_.symm; have f5_ := f3_.symm; clear f1_ f2_ f3_; subst f4_; subst f5_))
       have p980 : 0 ≤ (x10_1 : Int) := of_decide_eq_true (g1_)
       have q980 : x10_1 < (t970.length : Int) := of_decide_eq_true (g1_)
       obtain ⟨ad980, e980, hx980_0, hx980_1⟩ := at_T36 (Kd.R_reads' HO_6.out).2.2 x10_1 p980 q980
       cases e980
       replace p980 := eq_true p980
       replace q980 := eq_true q980
       obtain ⟨Ao25, co25, eo25⟩ := Kd.R_slice HO_8.out
       (first | subst eo25 | (injection eo25 with f1_ f2_ f3_; have f4_ := f1_.symm; have f5_ := f3_.symm; clear f1_ f2_ f3_; subst f4_; subst f5_))
       have p981 : 0 ≤ (x10_1 : Int) := of_decide_eq_true (g1_)
       have q981 : x10_1 < (t974.length : Int) := of_decide_eq_true (g1_)
       obtain ⟨ad981, e981, hx981_0, hx981_1⟩ := at_T36 (Kd.R_reads' HO_8.out).2.2 x10_1 p981 q981
       cases e981
       replace p981 := eq_true p981
       replace q981 := eq_true q981
       refine start_ (n := 10) (S := fun w' => w'.cell? (ad980.add ((x10_1).toNat * 2)) = some (.int .i64 ((rd_T36 t970 x10_1).f0)) ∧ w'.cell? ⟨(ad980.add ((x10_1).toNat * 2)).block, (ad980.add ((x10_1).toNat * 2)).off + 1, none⟩ = some (.int .i64 ((rd_T36 t970 x10_1).f1)) ∧ w'.cell? (ad981.add ((x10_1).toNat * 2)) = some (.int .i64 ((rd_T36 t974 x10_1).f0)) ∧ w'.cell? ⟨(ad981.add ((x10_1).toNat * 2)).block, (ad981.add ((x10_1).toNat * 2)).off + 1, none⟩ = some (.int .i64 ((rd_T36 t974 x10_1).f1))) (ds := []) (tl_ 10 0) (g0_) rfl (g0_) ⟨hx980_0, hx980_1, hx981_0, hx981_1⟩ (fun hHeld => ?_); refine with_tabW spec_LeadsTo.tab7 spec_LeadsTo.bits7 (fun HT_ HW_ => ?_)
       generalize wc.drew = w23 at HO_6 HO_8 HO_9 BK969 HB hx980_0 hx980_1 hx981_0 hx981_1 hHeld ⊢
       refine pw_ 0 29 (tl_ 10 1) rfl rfl ?_
       refine pw_ 1 30 (tl_ 10 3) rfl rfl ?_
       refine pw_ 2 31 (tl_ 10 7) rfl rfl ?_
       refine pw_ 4 33 (tl_ 10 23) rfl rfl ?_
       refine pw_ 5 34 (tl_ 10 55) rfl rfl ?_
       refine pw_ 6 35 (tl_ 10 119) rfl rfl ?_
       refine tk3_ 3 32 (tl_ 10 127) rfl rfl hHeld ?_
       refine tk3_ 7 36 (tl_ 10 255) rfl rfl hHeld ?_
       refine one_ (i := 8) (N := some 37) (tl_ 10 511) rfl rfl (one_of HT_.out (g0_)) (by decide) (fun K hK => ?_)
       refine goes_ Try.func64 (g0_) rfl #[.agg #[.int .i64 ((rd_T36 t970 x10_1).f0), .int .i64 ((rd_T36 t970 x10_1).f1)], .agg #[.int .i64 ((rd_T36 t974 x10_1).f0), .int .i64 ((rd_T36 t974 x10_1).f1)]] (by rfl) rfl rfl (g2_) ?_
       with_reducible refine (spec_BeforeOf.calls kj11 ((rd_T36 t970 x10_1).f0) ((rd_T36 t970 x10_1).f1) ((rd_T36 t974 x10_1).f0) ((rd_T36 t974 x10_1).f1) t982 _ A20.out).mono ?_
       rintro e w26 ⟨rfl, hb⟩
       have HS0_ := (hb.cell (World.block_lt_of_cell? _ _ (hHeld.1))).trans (hHeld.1)
       have HS1_ := (hb.cell (World.block_lt_of_cell? _ _ (hHeld.2.1))).trans (hHeld.2.1)
       have HS2_ := (hb.cell (World.block_lt_of_cell? _ _ (hHeld.2.2.1))).trans (hHeld.2.2.1)
       have HS3_ := (hb.cell (World.block_lt_of_cell? _ _ (hHeld.2.2.2))).trans (hHeld.2.2.2)
       refine ⟨_, rfl, ?_⟩
       replace HO_6 := Aside0.mk (Kd.R_below (uf1_ HO_6) hb)
       replace HO_8 := Aside0.mk (Kd.R_below (uf1_ HO_8) hb)
       replace HO_9 := Aside0.mk (Kd.R_below (uf1_ HO_9) hb)
       replace BK969 := bb_ BK969 hb
       replace HB := Aside0.mk (below_step (qz52_) hb)
       (try clear hb)
       (try clear hk hi)
       refine hK.out _ _ ⟨HS0_, HS1_, HS2_, HS3_⟩ (fun hHeld => ?_)
       clear hK K
       refine nm_ ?_
       refine pw_ 9 38 (tl_ 10 1023) rfl rfl ?_
       refine done_ (done_of HT_.out (g0_)) ?_
       have p983 : 0 ≤ (x10_1 : Int) := of_decide_eq_true (g1_)
       have q983 : x10_1 < (t970.length : Int) := of_decide_eq_true (g1_)
       obtain ⟨ad983, e983, hx983_0, hx983_1⟩ := at_T36 (Kd.R_reads' HO_6.out).2.2 x10_1 p983 q983
       obtain rfl : ad980 = ad983 := (by injection e983)
       replace p983 := eq_true p983
       replace q983 := eq_true q983
       try go_wp2_with (first | ((with_reducible refine gate_builtin (b := .append) (xs := #[.tmp 39, .tmp 44]) rfl ?_); at_builtin; refine Kd.R_append k36 (w0 := w) w.heap.size rfl (.tmp 39) (.tmp 44) 28 36 (.agg #[(.int .i64 0), (.int .i64 0)]) 16 rfl Try.underlying28 info36 rfl (by decide) (by omega) u9 x9_1 (⟨(rd_T36 t970 x10_1).f0, (rd_T36 t970 x10_1).f1⟩ : S36) [.int .i64 ((rd_T36 t970 x10_1).f0), .int .i64 ((rd_T36 t970 x10_1).f1)] (fun k_ => some k_ ≠ (.slice (some ad980) t970.length co24 : Value).ownBlock ∧ some k_ ≠ (.slice (some ad981) t974.length co25 : Value).ownBlock) (fun _ => False) rfl rfl ?aP (fun _ hk => hk.elim) ?aF ?aO ?aB ?aS ?aL ?_; (case aP => exact k36_mkM _ _ _ (⟨(rd_T36 t970 x10_1).f0, (rd_T36 t970 x10_1).f1⟩ : S36)); (case aB => exact (qz52_)); (case aF => exact (fun k_ hk => ⟨Kd.fresh' (Kd.R_lt (uf1_ HO_6)) k_ hk, Kd.fresh' (Kd.R_lt (uf1_ HO_8)) k_ hk⟩)); (case aO => exact (uf1_ HO_9)); (case aS => exact (below_size (qz52_))); (case aL => have := LMc22.out; omega); intro v985 w27 ho hb hg hat; rw [← Ny984.out] at ho; replace HO_6 := Aside0.mk (Kd.R_after (ok := (fun k_ => some k_ ≠ (.slice (some ad981) t974.length co25 : Value).ownBlock)) (uf1_ HO_6) hg hat); replace HO_8 := Aside0.mk (Kd.R_after (ok := (fun k_ => some k_ ≠ (.slice (some ad980) t970.length co24 : Value).ownBlock)) (uf1_ HO_8) hg hat); replace BK969 := Aside0.mk (blk_grown (g := gb969) (o := .cells #[.slice A0_0 l0_0.length c0_0, .slice A0_1 l0_1.length c0_1] 26 (0, 0)) (uf0_ BK969) hg (Kd.R_ne HO_9.out BK969.out (by decide))); replace HB := Aside0.mk (hb); have HO986 := Aside0.mk (ho); clear HO_9; clear ho hb hg hat))
       go_roundg kj11
       case measure => have := HK1.out; have := HJ11.out; omega
       case rel => exact ⟨(y984), (wrap64 (x10_1 + 1)), (g3_), H', ⟨g114_⟩, ⟨uf1_ HO_6⟩, ⟨uf1_ HO_8⟩, ⟨uf1_ HO986⟩, ⟨uf0_ BK969⟩, ⟨qz52_⟩⟩
      ·rw [if_neg c21] at H
       have c21b0 := decide_eq_false c21
       clear c21
       obtain ⟨c28, H⟩ := pos_ H
       have LMc28 := Aside0.mk c28
       clear c28
       obtain ⟨y988, hy988⟩ : ∃ y_ : List (S36), y_ = (x9_1 ++ [(⟨(rd_T36 t974 x10_1).f0, (rd_T36 t974 x10_1).f1⟩ : S36)]) := ⟨_, rfl⟩
       replace H : (spec_LeadsTo.l0 kj11 t970 t973 t974 y988 (wrap64 (x10_1 + 1))) = some (r1, r2) := by first | (rw [hy988]; with_reducible exact H) | (have H2_ := (Option.bind_some _ _).symm.trans H; rw [hy988]; with_reducible exact H2_) | (have H2_ := (Option.bind_some _ _).symm.trans H; with_reducible exact H2_) | with_reducible exact H | (rw [hy988]; exact H) | exact H
       have Ny988 := Aside0.mk hy988
       clear hy988
       have H' := Aside0.mk H
       clear H
       try go_wp2
       replace HO_6 := Aside0.mk (Kd.R_drew HO_6.out)
       replace HO_8 := Aside0.mk (Kd.R_drew HO_8.out)
       replace HO_9 := Aside0.mk (Kd.R_drew HO_9.out)
       replace BK969 := Aside0.mk (blk_drew BK969.out)
       replace HB := Aside0.mk (below_drew1 HB.out)
       obtain ⟨Ao30, co30, eo30⟩ := Kd.R_slice HO_6.out
       (first | subst eo30 | (injection eo30 with f1_ f2_ f3_; have f4_ := f1_.symm; have f5_ := f3_.symm; clear f1_ f2_ f3_; subst f4_; subst f5_))
       have p980 : 0 ≤ (x10_1 : Int) := of_decide_eq_true (g1_)
       have q980 : x10_1 < (t970.length : Int) := of_decide_eq_true (g1_)
       obtain ⟨ad980, e980, hx980_0, hx980_1⟩ := at_T36 (Kd.R_reads' HO_6.out).2.2 x10_1 p980 q980
       cases e980
       replace p980 := eq_true p980
       replace q980 := eq_true q980
       obtain ⟨Ao31, co31, eo31⟩ := Kd.R_slice HO_8.out
       (first | subst eo31 | (injection eo31 with f1_ f2_ f3_; have f4_ := f1_.symm; have f5_ := f3_.symm; clear f1_ f2_ f3_; subst f4_; subst f5_))
       have p981 : 0 ≤ (x10_1 : Int) := of_decide_eq_true (g1_)
       have q981 : x10_1 < (t974.length : Int) := of_decide_eq_true (g1_)
       obtain ⟨ad981, e981, hx981_0, hx981_1⟩ := at_T36 (Kd.R_reads' HO_8.out).2.2 x10_1 p981 q981
       cases e981
       replace p981 := eq_true p981
       replace q981 := eq_true q981
       refine start_ (n := 10) (S := fun w' => w'.cell? (ad980.add ((x10_1).toNat * 2)) = some (.int .i64 ((rd_T36 t970 x10_1).f0)) ∧ w'.cell? ⟨(ad980.add ((x10_1).toNat * 2)).block, (ad980.add ((x10_1).toNat * 2)).off + 1, none⟩ = some (.int .i64 ((rd_T36 t970 x10_1).f1)) ∧ w'.cell? (ad981.add ((x10_1).toNat * 2)) = some (.int .i64 ((rd_T36 t974 x10_1).f0)) ∧ w'.cell? ⟨(ad981.add ((x10_1).toNat * 2)).block, (ad981.add ((x10_1).toNat * 2)).off + 1, none⟩ = some (.int .i64 ((rd_T36 t974 x10_1).f1))) (ds := []) (tl_ 10 0) (g0_) rfl (g0_) ⟨hx980_0, hx980_1, hx981_0, hx981_1⟩ (fun hHeld => ?_); refine with_tabW spec_LeadsTo.tab7 spec_LeadsTo.bits7 (fun HT_ HW_ => ?_)
       generalize wc.drew = w29 at HO_6 HO_8 HO_9 BK969 HB hx980_0 hx980_1 hx981_0 hx981_1 hHeld ⊢
       refine pw_ 0 29 (tl_ 10 1) rfl rfl ?_
       refine pw_ 1 30 (tl_ 10 3) rfl rfl ?_
       refine pw_ 2 31 (tl_ 10 7) rfl rfl ?_
       refine pw_ 4 33 (tl_ 10 23) rfl rfl ?_
       refine pw_ 5 34 (tl_ 10 55) rfl rfl ?_
       refine pw_ 6 35 (tl_ 10 119) rfl rfl ?_
       refine tk3_ 3 32 (tl_ 10 127) rfl rfl hHeld ?_
       refine tk3_ 7 36 (tl_ 10 255) rfl rfl hHeld ?_
       refine one_ (i := 8) (N := some 37) (tl_ 10 511) rfl rfl (one_of HT_.out (g0_)) (by decide) (fun K hK => ?_)
       refine goes_ Try.func64 (g0_) rfl #[.agg #[.int .i64 ((rd_T36 t970 x10_1).f0), .int .i64 ((rd_T36 t970 x10_1).f1)], .agg #[.int .i64 ((rd_T36 t974 x10_1).f0), .int .i64 ((rd_T36 t974 x10_1).f1)]] (by rfl) rfl rfl (g2_) ?_
       with_reducible refine (spec_BeforeOf.calls kj11 ((rd_T36 t970 x10_1).f0) ((rd_T36 t970 x10_1).f1) ((rd_T36 t974 x10_1).f0) ((rd_T36 t974 x10_1).f1) t982 _ A20.out).mono ?_
       rintro e w32 ⟨rfl, hb⟩
       have HS0_ := (hb.cell (World.block_lt_of_cell? _ _ (hHeld.1))).trans (hHeld.1)
       have HS1_ := (hb.cell (World.block_lt_of_cell? _ _ (hHeld.2.1))).trans (hHeld.2.1)
       have HS2_ := (hb.cell (World.block_lt_of_cell? _ _ (hHeld.2.2.1))).trans (hHeld.2.2.1)
       have HS3_ := (hb.cell (World.block_lt_of_cell? _ _ (hHeld.2.2.2))).trans (hHeld.2.2.2)
       refine ⟨_, rfl, ?_⟩
       replace HO_6 := Aside0.mk (Kd.R_below (uf1_ HO_6) hb)
       replace HO_8 := Aside0.mk (Kd.R_below (uf1_ HO_8) hb)
       replace HO_9 := Aside0.mk (Kd.R_below (uf1_ HO_9) hb)
       replace BK969 := bb_ BK969 hb
       replace HB := Aside0.mk (below_step (qz52_) hb)
       (try clear hb)
       (try clear hk hi)
       refine hK.out _ _ ⟨HS0_, HS1_, HS2_, HS3_⟩ (fun hHeld => ?_)
       clear hK K
       refine nm_ ?_
       refine pw_ 9 38 (tl_ 10 1023) rfl rfl ?_
       refine done_ (done_of HT_.out (g0_)) ?_
       have p987 : 0 ≤ (x10_1 : Int) := of_decide_eq_true (g1_)
       have q987 : x10_1 < (t974.length : Int) := of_decide_eq_true (g1_)
       obtain ⟨ad987, e987, hx987_0, hx987_1⟩ := at_T36 (Kd.R_reads' HO_8.out).2.2 x10_1 p987 q987
       obtain rfl : ad981 = ad987 := (by injection e987)
       replace p987 := eq_true p987
       replace q987 := eq_true q987
       try go_wp2_with (first | ((with_reducible refine gate_builtin (b := .append) (xs := #[.tmp 46, .tmp 51]) rfl ?_); at_builtin; refine Kd.R_append k36 (w0 := w) w.heap.size rfl (.tmp 46) (.tmp 51) 28 36 (.agg #[(.int .i64 0), (.int .i64 0)]) 16 rfl Try.underlying28 info36 rfl (by decide) (by omega) u9 x9_1 (⟨(rd_T36 t974 x10_1).f0, (rd_T36 t974 x10_1).f1⟩ : S36) [.int .i64 ((rd_T36 t974 x10_1).f0), .int .i64 ((rd_T36 t974 x10_1).f1)] (fun k_ => some k_ ≠ (.slice (some ad980) t970.length co30 : Value).ownBlock ∧ some k_ ≠ (.slice (some ad981) t974.length co31 : Value).ownBlock) (fun _ => False) rfl rfl ?aP (fun _ hk => hk.elim) ?aF ?aO ?aB ?aS ?aL ?_; (case aP => exact k36_mkM _ _ _ (⟨(rd_T36 t974 x10_1).f0, (rd_T36 t974 x10_1).f1⟩ : S36)); (case aB => exact (qz52_)); (case aF => exact (fun k_ hk => ⟨Kd.fresh' (Kd.R_lt (uf1_ HO_6)) k_ hk, Kd.fresh' (Kd.R_lt (uf1_ HO_8)) k_ hk⟩)); (case aO => exact (uf1_ HO_9)); (case aS => exact (below_size (qz52_))); (case aL => have := LMc28.out; omega); intro v989 w33 ho hb hg hat; rw [← Ny988.out] at ho; replace HO_6 := Aside0.mk (Kd.R_after (ok := (fun k_ => some k_ ≠ (.slice (some ad981) t974.length co31 : Value).ownBlock)) (uf1_ HO_6) hg hat); replace HO_8 := Aside0.mk (Kd.R_after (ok := (fun k_ => some k_ ≠ (.slice (some ad980) t970.length co30 : Value).ownBlock)) (uf1_ HO_8) hg hat); replace BK969 := Aside0.mk (blk_grown (g := gb969) (o := .cells #[.slice A0_0 l0_0.length c0_0, .slice A0_1 l0_1.length c0_1] 26 (0, 0)) (uf0_ BK969) hg (Kd.R_ne HO_9.out BK969.out (by decide))); replace HB := Aside0.mk (hb); have HO990 := Aside0.mk (ho); clear HO_9; clear ho hb hg hat))
       go_roundg kj11
       case measure => have := HK1.out; have := HJ11.out; omega
       case rel => exact ⟨(y988), (wrap64 (x10_1 + 1)), (g3_), H', ⟨g114_⟩, ⟨uf1_ HO_6⟩, ⟨uf1_ HO_8⟩, ⟨uf1_ HO990⟩, ⟨uf0_ BK969⟩, ⟨qz52_⟩⟩
     ·replace c16 := Bool.eq_false_iff.mpr c16
      subst c16
      replace H := ifn_ H
      simp only [Option.some.injEq, Prod.mk.injEq] at H
      obtain ⟨rfl, rfl⟩ := H
      go_wp2
      go_ret2
      exact ⟨_, g4_, by (with_reducible repeat (first | apply Kd.R_alloc | apply Kd.R_drewN | apply Kd.R_drew)); exact Kd.R_mono HO_9.out (fun _ hk => trivial), qz52_⟩
def impl_BeforeOf.f (k : Nat) (a0_0 : Int) (a0_1 : Int) (a1_0 : Int) (a1_1 : Int) : Option (Int) := (impl_isFrac.f k a0_0 a0_1).bind fun t647 => (if t647 = true then ((impl_isFrac.f k a1_0 a1_1).bind fun t648 => (if t648 = true then ((impl_compare.f a0_0 a0_1 a1_0 a1_1).bind fun t649 => (some t649)) else (some (-2)))) else (some (-2)))
theorem impl_BeforeOf.mq {p : Prop} (h : p := by
 repeat' first
 | (with_reducible exact impl_isFrac.mono _ _ _)
 | (with_reducible exact LeO.refl _)
 | (with_reducible exact LeO.none _)
 | (with_reducible refine LeO.ite ?_ ?_)
 | (with_reducible refine LeO.bind ?_ (fun _ => ?_))
 | exact impl_isFrac.mono _ _ _
 | exact LeO.none _
 | refine LeO.ite ?_ ?_
 | refine LeO.bind ?_ (fun _ => ?_)) : p := h
theorem impl_BeforeOf.mono : ∀ a0 a1 a2 a3 k, LeO (impl_BeforeOf.f k a0 a1 a2 a3) (impl_BeforeOf.f (k + 1) a0 a1 a2 a3) := by
 intro a0 a1 a2 a3 k
 unfold impl_BeforeOf.f
 exact impl_BeforeOf.mq
theorem qz5_ {p : Prop} (h : p := by repeat (first | (with_reducible first | exact HB.out | apply below_alloc | apply pw_below_drewN | apply below_drew1 | refine below_set ?_ GE645.out | refine below_set ?_ GE646.out) | exact HB.out)) : p := h
set_option maxHeartbeats 8000000 in
set_option maxRecDepth 100000 in
theorem impl_BeforeOf.calls (k : Nat) (a0_0 : Int) (a0_1 : Int) (a1_0 : Int) (a1_1 : Int) (r : Int) (w : World) (h : impl_BeforeOf.f k a0_0 a0_1 a1_0 a1_1 = some r) :
  Calls Try.prog 32 #[.agg #[.int .i64 a0_0, .int .i64 a0_1], .agg #[.int .i64 a1_0, .int .i64 a1_1]] w fun e w' => e = .returned (.int .i64 r) ∧ Below w.heap.size w w' := by
 have hu36 := Try.underlying36
 have HB := Aside0.mk (Below.refl w.heap.size w)
 have H : ((impl_isFrac.f k a0_0 a0_1).bind fun t647 => (if t647 = true then ((impl_isFrac.f k a1_0 a1_1).bind fun t648 => (if t648 = true then ((impl_compare.f a0_0 a0_1 a1_0 a1_1).bind fun t649 => (some t649)) else (some (-2)))) else (some (-2)))) = some r := h
 clear h
 obtain ⟨t647, A3, H⟩ := bind_ H
 by_cases c4 : t647 = true
 ·subst c4
  replace H := ifp_ H
  obtain ⟨t648, A5, H⟩ := bind_ H
  by_cases c6 : t648 = true
  ·subst c6
   replace H := ifp_ H
   obtain ⟨t649, A7, H⟩ := bind_ H
   obtain rfl := Option.some.inj H
   go_enter Try.func32, Try.ntmps32
   go_wp2_with (first | ((with_reducible refine gate_dst (N := 2) rfl ?_); refine bx_ (N := 2) #[.int .i64 a0_0, .int .i64 a0_1] 36 ?_; intro gb645 hg w8 hbox hb; have BK645 := Aside0.mk (hbox); have GW645 := Aside0.mk ((g33_ : w.heap.size ≤ gb645)); have GE645 := Aside0.mk ((g33_ : w.heap.size ≤ gb645)); replace HB := Aside0.mk (below_step (qz5_) hb); clear hb hbox hg) | ((with_reducible refine gate_dst (N := 3) rfl ?_); refine bx_ (N := 3) #[.int .i64 a1_0, .int .i64 a1_1] 36 ?_; intro gb646 hg w9 hbox hb; have BK646 := Aside0.mk (hbox); have GW646 := Aside0.mk ((g33_ : w.heap.size ≤ gb646)); have GE646 := Aside0.mk ((g33_ : w.heap.size ≤ gb646)); replace HB := Aside0.mk (below_step (qz5_) hb); have NB645_646 := Aside0.mk ((g172_ : gb645 ≠ gb646)); have NB646_645 := Aside0.mk ((g173_ : gb646 ≠ gb645)); replace BK645 := bb_ BK645 hb; clear hb hbox hg; have hnb10 := NB645_646.out; have hnc10 := NB646_645.out; obtain ⟨hcz11_0, hcz11_1, hfz11_0, hfz11_1⟩ := blk2_ BK645) | ((with_reducible refine gate_callee (f := 77) rfl ?_); refine goesL_ (some 6) rfl rfl Try.func77 k_ rfl #[.agg #[.int .i64 a0_0, .int .i64 a0_1]] rfl (g2_) ?_; (with_reducible refine (impl_isFrac.calls k a0_0 a0_1 true _ A3.out).mono ?_); rintro e w12 ⟨rfl, hb⟩; refine ⟨_, rfl, ?_⟩; replace BK645 := bb_ BK645 hb; replace BK646 := bb_ BK646 hb; replace HB := Aside0.mk (below_step (qz5_) hb); (try clear hb); (try clear hk hi); obtain ⟨hcz13_0, hcz13_1, hfz13_0, hfz13_1⟩ := blk2_ BK646) | (go_at_call 77; (with_reducible refine (impl_isFrac.calls k a1_0 a1_1 true _ A5.out).mono ?_); rintro e w14 ⟨rfl, hb⟩; replace BK645 := bb_ BK645 hb; replace BK646 := bb_ BK646 hb; replace HB := Aside0.mk (below_step (qz5_) hb); (try clear hb); (try clear hk hi); obtain ⟨hcz15_0, hcz15_1, hfz15_0, hfz15_1⟩ := blk2_ BK645; obtain ⟨hcz16_0, hcz16_1, hfz16_0, hfz16_1⟩ := blk2_ BK646) | ((with_reducible refine gate_callee (f := 78) rfl ?_); refine goesL_ (some 15) rfl rfl Try.func78 k_ rfl #[.agg #[.int .i64 a0_0, .int .i64 a0_1], .agg #[.int .i64 a1_0, .int .i64 a1_1]] rfl (g2_) ?_; (with_reducible refine (impl_compare.calls a0_0 a0_1 a1_0 a1_1 t649 _ A7.out).mono ?_); rintro e w17 ⟨rfl, hb⟩; refine ⟨_, rfl, ?_⟩; replace BK645 := bb_ BK645 hb; replace BK646 := bb_ BK646 hb; replace HB := Aside0.mk (below_step (qz5_) hb); (try clear hb); (try clear hk hi)))
   go_ret
   exact ⟨g4_, qz5_⟩
  ·replace c6 := Bool.eq_false_iff.mpr c6
   subst c6
   replace H := ifn_ H
   obtain rfl := Option.some.inj H
   go_enter Try.func32, Try.ntmps32
   go_wp2_with (first | ((with_reducible refine gate_dst (N := 2) rfl ?_); refine bx_ (N := 2) #[.int .i64 a0_0, .int .i64 a0_1] 36 ?_; intro gb645 hg w18 hbox hb; have BK645 := Aside0.mk (hbox); have GW645 := Aside0.mk ((g33_ : w.heap.size ≤ gb645)); have GE645 := Aside0.mk ((g33_ : w.heap.size ≤ gb645)); replace HB := Aside0.mk (below_step (qz5_) hb); clear hb hbox hg) | ((with_reducible refine gate_dst (N := 3) rfl ?_); refine bx_ (N := 3) #[.int .i64 a1_0, .int .i64 a1_1] 36 ?_; intro gb646 hg w19 hbox hb; have BK646 := Aside0.mk (hbox); have GW646 := Aside0.mk ((g33_ : w.heap.size ≤ gb646)); have GE646 := Aside0.mk ((g33_ : w.heap.size ≤ gb646)); replace HB := Aside0.mk (below_step (qz5_) hb); have NB645_646 := Aside0.mk ((g172_ : gb645 ≠ gb646)); have NB646_645 := Aside0.mk ((g173_ : gb646 ≠ gb645)); replace BK645 := bb_ BK645 hb; clear hb hbox hg; have hnb20 := NB645_646.out; have hnc20 := NB646_645.out; obtain ⟨hcz21_0, hcz21_1, hfz21_0, hfz21_1⟩ := blk2_ BK645) | ((with_reducible refine gate_callee (f := 77) rfl ?_); refine goesL_ (some 6) rfl rfl Try.func77 k_ rfl #[.agg #[.int .i64 a0_0, .int .i64 a0_1]] rfl (g2_) ?_; (with_reducible refine (impl_isFrac.calls k a0_0 a0_1 true _ A3.out).mono ?_); rintro e w22 ⟨rfl, hb⟩; refine ⟨_, rfl, ?_⟩; replace BK645 := bb_ BK645 hb; replace BK646 := bb_ BK646 hb; replace HB := Aside0.mk (below_step (qz5_) hb); (try clear hb); (try clear hk hi); obtain ⟨hcz23_0, hcz23_1, hfz23_0, hfz23_1⟩ := blk2_ BK646) | (go_at_call 77; (with_reducible refine (impl_isFrac.calls k a1_0 a1_1 false _ A5.out).mono ?_); rintro e w24 ⟨rfl, hb⟩; replace BK645 := bb_ BK645 hb; replace BK646 := bb_ BK646 hb; replace HB := Aside0.mk (below_step (qz5_) hb); (try clear hb); (try clear hk hi)))
   go_ret
   exact ⟨g4_, qz5_⟩
 ·replace c4 := Bool.eq_false_iff.mpr c4
  subst c4
  replace H := ifn_ H
  obtain rfl := Option.some.inj H
  go_enter Try.func32, Try.ntmps32
  go_wp2_with (first | ((with_reducible refine gate_dst (N := 2) rfl ?_); refine bx_ (N := 2) #[.int .i64 a0_0, .int .i64 a0_1] 36 ?_; intro gb645 hg w25 hbox hb; have BK645 := Aside0.mk (hbox); have GW645 := Aside0.mk ((g33_ : w.heap.size ≤ gb645)); have GE645 := Aside0.mk ((g33_ : w.heap.size ≤ gb645)); replace HB := Aside0.mk (below_step (qz5_) hb); clear hb hbox hg) | ((with_reducible refine gate_dst (N := 3) rfl ?_); refine bx_ (N := 3) #[.int .i64 a1_0, .int .i64 a1_1] 36 ?_; intro gb646 hg w26 hbox hb; have BK646 := Aside0.mk (hbox); have GW646 := Aside0.mk ((g33_ : w.heap.size ≤ gb646)); have GE646 := Aside0.mk ((g33_ : w.heap.size ≤ gb646)); replace HB := Aside0.mk (below_step (qz5_) hb); have NB645_646 := Aside0.mk ((g172_ : gb645 ≠ gb646)); have NB646_645 := Aside0.mk ((g173_ : gb646 ≠ gb645)); replace BK645 := bb_ BK645 hb; clear hb hbox hg; have hnb27 := NB645_646.out; have hnc27 := NB646_645.out; obtain ⟨hcz28_0, hcz28_1, hfz28_0, hfz28_1⟩ := blk2_ BK645) | ((with_reducible refine gate_callee (f := 77) rfl ?_); refine goesL_ (some 6) rfl rfl Try.func77 k_ rfl #[.agg #[.int .i64 a0_0, .int .i64 a0_1]] rfl (g2_) ?_; (with_reducible refine (impl_isFrac.calls k a0_0 a0_1 false _ A3.out).mono ?_); rintro e w29 ⟨rfl, hb⟩; refine ⟨_, rfl, ?_⟩; replace BK645 := bb_ BK645 hb; replace BK646 := bb_ BK646 hb; replace HB := Aside0.mk (below_step (qz5_) hb); (try clear hb); (try clear hk hi)))
  go_ret
  exact ⟨g4_, qz5_⟩
mutual
def laws_belowPays.l0 : Nat → List (S36) → List (S36) → Int → Option (Bool)
 | 0, _, _, _ => none
 | k + 1, x0, x1, x5 => if x5 < (x0.length : Int) then (laws_belowPays.j1 k x0 x1 x5 (decide (x5 < (x1.length : Int)))) else (laws_belowPays.j1 k x0 x1 x5 false)
def laws_belowPays.j1 : Nat → List (S36) → List (S36) → Int → Bool → Option (Bool)
 | 0, _, _, _, _ => none
 | k + 1, x0, x1, x5, x15 => if x15 = true then (if 0 ≤ x5 then (if x5 < (x0.length : Int) then (if x5 < (x1.length : Int) then ((impl_BeforeOf.f k ((rd_T36 x0 x5).f0) ((rd_T36 x0 x5).f1) ((rd_T36 x1 x5).f0) ((rd_T36 x1 x5).f1)).bind fun t993 => (if t993 > 0 then (some false) else (laws_belowPays.l0 k x0 x1 (wrap64 (x5 + 1))))) else (none)) else (none)) else (none)) else (some ((x0.length : Int) == (x1.length : Int)))
end
def laws_belowPays.f (k : Nat) (l0 : List (S36)) (l1 : List (S36)) : Option (Bool) := laws_belowPays.l0 k l0 l1 0
theorem laws_belowPays.mq {p : Prop} (h : p := by
 repeat' first
 | (with_reducible exact ih0 _ _ _)
 | (with_reducible exact ih1 _ _ _ _)
 | (with_reducible exact impl_BeforeOf.mono _ _ _ _ _)
 | (with_reducible exact LeO.refl _)
 | (with_reducible exact LeO.none _)
 | (with_reducible refine LeO.ite ?_ ?_)
 | (with_reducible refine LeO.bind ?_ (fun _ => ?_))
 | exact ih0 _ _ _
 | exact ih1 _ _ _ _
 | exact impl_BeforeOf.mono _ _ _ _ _
 | exact LeO.none _
 | refine LeO.ite ?_ ?_
 | refine LeO.bind ?_ (fun _ => ?_)) : p := h
theorem laws_belowPays.mono_l : ∀ k, (∀ y0 y1 y2, LeO (laws_belowPays.l0 k y0 y1 y2) (laws_belowPays.l0 (k + 1) y0 y1 y2)) ∧ (∀ y0 y1 y2 y3, LeO (laws_belowPays.j1 k y0 y1 y2 y3) (laws_belowPays.j1 (k + 1) y0 y1 y2 y3))
 | 0 => ⟨fun _ _ _ r h => by simp [laws_belowPays.l0] at h, fun _ _ _ _ r h => by simp [laws_belowPays.j1] at h⟩
 | k + 1 => by
  obtain ⟨ih0, ih1⟩ := laws_belowPays.mono_l k
  refine ⟨?_, ?_⟩
  ·intro y0 y1 y2
   unfold laws_belowPays.l0
   exact laws_belowPays.mq
  ·intro y0 y1 y2 y3
   unfold laws_belowPays.j1
   exact laws_belowPays.mq
theorem laws_belowPays.mono : ∀ a0 a1 k, LeO (laws_belowPays.f k a0 a1) (laws_belowPays.f (k + 1) a0 a1) := by
 intro a0 a1 k
 obtain ⟨ih0, ih1⟩ := laws_belowPays.mono_l k
 unfold laws_belowPays.f
 exact laws_belowPays.mq
def laws_belowPays.T4 : Bool × List (List Nat × List Nat) := (true, [([], []), ([], []), ([0, 1], [0, 1]), ([2], [2]), ([], []), ([], []), ([4, 5], [4, 5]), ([6], [6]), ([3, 7], [3, 7]), ([8], [8])])
def laws_belowPays.B4 : List Nat := [0, 0, 3, 7, 0, 0, 48, 112, 255, 511]
theorem laws_belowPays.tab4 : rtab .any (opsOf Try.f49 4) = laws_belowPays.T4 := by kernel_rfl
theorem laws_belowPays.bits4 : waitsOk laws_belowPays.T4.2 laws_belowPays.B4 = true := by kernel_rfl
theorem qz53_ {p : Prop} (h : p := by repeat (first | (with_reducible first | exact HB.out | apply below_alloc | apply pw_below_drewN | apply below_drew1) | exact HB.out)) : p := h
set_option maxHeartbeats 8000000 in
set_option maxRecDepth 100000 in
theorem laws_belowPays.calls (k : Nat) (A0 : Option Addr) (c0 : Nat) (l0 : List (S36)) (A1 : Option Addr) (c1 : Nat) (l1 : List (S36)) (r : Bool) (w : World) (hr0 : Kd.C k36 w A0 l0.length l0) (hc0 : l0.length ≤ c0) (hr1 : Kd.C k36 w A1 l1.length l1) (hc1 : l1.length ≤ c1) (h : laws_belowPays.f k l0 l1 = some r) :
  Calls Try.prog 49 #[.slice A0 l0.length c0, .slice A1 l1.length c1] w fun e w' => e = .returned (.bool r) ∧ Below w.heap.size w w' := by
 have hu36 := Try.underlying36
 have HR0 := Aside0.mk hr0
 have HC0 := Aside0.mk hc0
 clear hr0 hc0
 have HR1 := Aside0.mk hr1
 have HC1 := Aside0.mk hc1
 clear hr1 hc1
 have HB := Aside0.mk (Below.refl w.heap.size w)
 have H : (laws_belowPays.l0 k l0 l1 0) = some r := h
 clear h
 have H' := Aside0.mk H
 clear H
 go_enter Try.func49, Try.ntmps49
 go_wp2
 go_loopg [5] k (fun kq v5 w' => ∃ (x5_1 : Int), v5 = .int .i64 x5_1 ∧ Aside0 (laws_belowPays.l0 kq l0 l1 x5_1 = some r) ∧ Aside0 (kq ≤ k) ∧ Aside0 (Below w.heap.size w w'))
 case atStart => exact ⟨(0), (g3_), H', ⟨Nat.le_refl _⟩, ⟨qz53_⟩⟩
 case round =>
  clear H'
  try clear c1
  try clear p2
  obtain ⟨x5_1, rfl, HA, HK1, HB⟩ := hrel
  cases gk with
  | zero => exact absurd HA.out (by simp [laws_belowPays.l0])
  | succ k1 =>
   have H := HA.out
   clear HA
   simp only [laws_belowPays.l0] at H
   have HC3 := Aside0.mk H
   clear H
   go_upto_region 2 with (fail)
   go_cut [15] (fun v15 wc => ∃ (kq : Nat) (x15_2 : Bool), v15 = .bool x15_2 ∧ Aside0 (laws_belowPays.j1 kq l0 l1 x5_1 x15_2 = some r) ∧ Aside0 (kq ≤ k1) ∧ Aside0 (Below w.heap.size w wc))
   case first =>
    have H := HC3.out
    clear HC3
    by_cases c4 : x5_1 < (l0.length : Int)
    ·rw [if_pos c4] at H
     have c4b0 := decide_eq_true c4
     clear c4
     (first | rw [c4b0] | (simp only [i64_w, i32_w]; rw [c4b0]) | skip)
     have H' := Aside0.mk H
     clear H
     go_wp2
     go_meet
     case rel => exact ⟨_, (decide (x5_1 < (l1.length : Int))), (g3_), H', ⟨g30_⟩, ⟨qz53_⟩⟩
    ·rw [if_neg c4] at H
     have c4b0 := decide_eq_false c4
     clear c4
     (first | rw [c4b0] | (simp only [i64_w, i32_w]; rw [c4b0]) | skip)
     have H' := Aside0.mk H
     clear H
     go_wp2
     go_meet
     case rel => exact ⟨_, (false), (g3_), H', ⟨g30_⟩, ⟨qz53_⟩⟩
   case rest =>
    clear HC3
    try clear c1
    try clear p2
    try clear c4
    try clear c4b0
    try clear p2
    obtain ⟨kq, x15_2, rfl, HA, HJ2, HB⟩ := hcut
    cases kq with
    | zero => exact absurd HA.out (by simp [laws_belowPays.j1])
    | succ kj2 =>
     have H := HA.out
     clear HA
     simp only [laws_belowPays.j1] at H
     by_cases c5 : x15_2 = true
     ·subst c5
      replace H := ifp_ H
      obtain ⟨c6, H⟩ := pos_ H
      have c6b0 := decide_eq_true c6
      clear c6
      obtain ⟨c7, H⟩ := pos_ H
      have c7b0 := decide_eq_true c7
      clear c7
      obtain ⟨c8, H⟩ := pos_ H
      have c8b0 := decide_eq_true c8
      clear c8
      obtain ⟨t993, A9, H⟩ := bind_ H
      by_cases c10 : t993 > 0
      ·rw [if_pos c10] at H
       have c10b0 := decide_eq_true c10
       clear c10
       obtain rfl := Option.some.inj H
       try go_wp2
       replace HB := Aside0.mk (below_drew1 HB.out)
       have p991 : 0 ≤ (x5_1 : Int) := of_decide_eq_true (g1_)
       have q991 : x5_1 < (l0.length : Int) := of_decide_eq_true (g1_)
       obtain ⟨ad991, e991, hx991_0, hx991_1⟩ := at_T36 HR0.out x5_1 p991 q991
       have hw991_1 := hx991_1
       have hw991_0 := hx991_0
       cases e991
       replace hx991_0 := cl_ HB hx991_0
       replace hx991_1 := cl_ HB hx991_1
       replace p991 := eq_true p991
       replace q991 := eq_true q991
       have p992 : 0 ≤ (x5_1 : Int) := of_decide_eq_true (g1_)
       have q992 : x5_1 < (l1.length : Int) := of_decide_eq_true (g1_)
       obtain ⟨ad992, e992, hx992_0, hx992_1⟩ := at_T36 HR1.out x5_1 p992 q992
       have hw992_1 := hx992_1
       have hw992_0 := hx992_0
       cases e992
       replace hx992_0 := cl_ HB hx992_0
       replace hx992_1 := cl_ HB hx992_1
       replace p992 := eq_true p992
       replace q992 := eq_true q992
       refine start_ (n := 10) (S := fun w' => w'.cell? (ad991.add ((x5_1).toNat * 2)) = some (.int .i64 ((rd_T36 l0 x5_1).f0)) ∧ w'.cell? ⟨(ad991.add ((x5_1).toNat * 2)).block, (ad991.add ((x5_1).toNat * 2)).off + 1, none⟩ = some (.int .i64 ((rd_T36 l0 x5_1).f1)) ∧ w'.cell? (ad992.add ((x5_1).toNat * 2)) = some (.int .i64 ((rd_T36 l1 x5_1).f0)) ∧ w'.cell? ⟨(ad992.add ((x5_1).toNat * 2)).block, (ad992.add ((x5_1).toNat * 2)).off + 1, none⟩ = some (.int .i64 ((rd_T36 l1 x5_1).f1))) (ds := []) (tl_ 10 0) (g0_) rfl (g0_) ⟨((cl_ HB hw991_0).trans rfl), ((cl_ HB hw991_1).trans rfl), ((cl_ HB hw992_0).trans rfl), ((cl_ HB hw992_1).trans rfl)⟩ (fun hHeld => ?_); refine with_tabW laws_belowPays.tab4 laws_belowPays.bits4 (fun HT_ HW_ => ?_)
       generalize wc.drew = w11 at HB hx991_0 hx991_1 hx992_0 hx992_1 hHeld ⊢
       refine pw_ 0 18 (tl_ 10 1) rfl rfl ?_
       refine pw_ 1 19 (tl_ 10 3) rfl rfl ?_
       refine pw_ 2 20 (tl_ 10 7) rfl rfl ?_
       refine pw_ 4 22 (tl_ 10 23) rfl rfl ?_
       refine pw_ 5 23 (tl_ 10 55) rfl rfl ?_
       refine pw_ 6 24 (tl_ 10 119) rfl rfl ?_
       refine tk3_ 3 21 (tl_ 10 127) rfl rfl hHeld ?_
       refine tk3_ 7 25 (tl_ 10 255) rfl rfl hHeld ?_
       refine one_ (i := 8) (N := some 26) (tl_ 10 511) rfl rfl (one_of HT_.out (g0_)) (by decide) (fun K hK => ?_)
       refine goes_ Try.func32 (g0_) rfl #[.agg #[.int .i64 ((rd_T36 l0 x5_1).f0), .int .i64 ((rd_T36 l0 x5_1).f1)], .agg #[.int .i64 ((rd_T36 l1 x5_1).f0), .int .i64 ((rd_T36 l1 x5_1).f1)]] (by rfl) rfl rfl (g2_) ?_
       with_reducible refine (impl_BeforeOf.calls kj2 ((rd_T36 l0 x5_1).f0) ((rd_T36 l0 x5_1).f1) ((rd_T36 l1 x5_1).f0) ((rd_T36 l1 x5_1).f1) t993 _ A9.out).mono ?_
       rintro e w12 ⟨rfl, hb⟩
       refine ⟨_, rfl, ?_⟩
       replace HB := Aside0.mk (below_step (qz53_) hb)
       (try clear hb)
       (try clear hk hi)
       refine hK.out _ _ ⟨((cl_ HB hw991_0).trans rfl), ((cl_ HB hw991_1).trans rfl), ((cl_ HB hw992_0).trans rfl), ((cl_ HB hw992_1).trans rfl)⟩ (fun hHeld => ?_)
       clear hK K
       refine nm_ ?_
       refine pw_ 9 27 (tl_ 10 1023) rfl rfl ?_
       refine done_ (done_of HT_.out (g0_)) ?_
       try go_wp2
       go_ret
       exact ⟨g4_, qz53_⟩
      ·rw [if_neg c10] at H
       have c10b0 := decide_eq_false c10
       clear c10
       have H' := Aside0.mk H
       clear H
       try go_wp2
       replace HB := Aside0.mk (below_drew1 HB.out)
       have p991 : 0 ≤ (x5_1 : Int) := of_decide_eq_true (g1_)
       have q991 : x5_1 < (l0.length : Int) := of_decide_eq_true (g1_)
       obtain ⟨ad991, e991, hx991_0, hx991_1⟩ := at_T36 HR0.out x5_1 p991 q991
       have hw991_1 := hx991_1
       have hw991_0 := hx991_0
       cases e991
       replace hx991_0 := cl_ HB hx991_0
       replace hx991_1 := cl_ HB hx991_1
       replace p991 := eq_true p991
       replace q991 := eq_true q991
       have p992 : 0 ≤ (x5_1 : Int) := of_decide_eq_true (g1_)
       have q992 : x5_1 < (l1.length : Int) := of_decide_eq_true (g1_)
       obtain ⟨ad992, e992, hx992_0, hx992_1⟩ := at_T36 HR1.out x5_1 p992 q992
       have hw992_1 := hx992_1
       have hw992_0 := hx992_0
       cases e992
       replace hx992_0 := cl_ HB hx992_0
       replace hx992_1 := cl_ HB hx992_1
       replace p992 := eq_true p992
       replace q992 := eq_true q992
       refine start_ (n := 10) (S := fun w' => w'.cell? (ad991.add ((x5_1).toNat * 2)) = some (.int .i64 ((rd_T36 l0 x5_1).f0)) ∧ w'.cell? ⟨(ad991.add ((x5_1).toNat * 2)).block, (ad991.add ((x5_1).toNat * 2)).off + 1, none⟩ = some (.int .i64 ((rd_T36 l0 x5_1).f1)) ∧ w'.cell? (ad992.add ((x5_1).toNat * 2)) = some (.int .i64 ((rd_T36 l1 x5_1).f0)) ∧ w'.cell? ⟨(ad992.add ((x5_1).toNat * 2)).block, (ad992.add ((x5_1).toNat * 2)).off + 1, none⟩ = some (.int .i64 ((rd_T36 l1 x5_1).f1))) (ds := []) (tl_ 10 0) (g0_) rfl (g0_) ⟨((cl_ HB hw991_0).trans rfl), ((cl_ HB hw991_1).trans rfl), ((cl_ HB hw992_0).trans rfl), ((cl_ HB hw992_1).trans rfl)⟩ (fun hHeld => ?_); refine with_tabW laws_belowPays.tab4 laws_belowPays.bits4 (fun HT_ HW_ => ?_)
       generalize wc.drew = w13 at HB hx991_0 hx991_1 hx992_0 hx992_1 hHeld ⊢
       refine pw_ 0 18 (tl_ 10 1) rfl rfl ?_
       refine pw_ 1 19 (tl_ 10 3) rfl rfl ?_
       refine pw_ 2 20 (tl_ 10 7) rfl rfl ?_
       refine pw_ 4 22 (tl_ 10 23) rfl rfl ?_
       refine pw_ 5 23 (tl_ 10 55) rfl rfl ?_
       refine pw_ 6 24 (tl_ 10 119) rfl rfl ?_
       refine tk3_ 3 21 (tl_ 10 127) rfl rfl hHeld ?_
       refine tk3_ 7 25 (tl_ 10 255) rfl rfl hHeld ?_
       refine one_ (i := 8) (N := some 26) (tl_ 10 511) rfl rfl (one_of HT_.out (g0_)) (by decide) (fun K hK => ?_)
       refine goes_ Try.func32 (g0_) rfl #[.agg #[.int .i64 ((rd_T36 l0 x5_1).f0), .int .i64 ((rd_T36 l0 x5_1).f1)], .agg #[.int .i64 ((rd_T36 l1 x5_1).f0), .int .i64 ((rd_T36 l1 x5_1).f1)]] (by rfl) rfl rfl (g2_) ?_
       with_reducible refine (impl_BeforeOf.calls kj2 ((rd_T36 l0 x5_1).f0) ((rd_T36 l0 x5_1).f1) ((rd_T36 l1 x5_1).f0) ((rd_T36 l1 x5_1).f1) t993 _ A9.out).mono ?_
       rintro e w14 ⟨rfl, hb⟩
       refine ⟨_, rfl, ?_⟩
       replace HB := Aside0.mk (below_step (qz53_) hb)
       (try clear hb)
       (try clear hk hi)
       refine hK.out _ _ ⟨((cl_ HB hw991_0).trans rfl), ((cl_ HB hw991_1).trans rfl), ((cl_ HB hw992_0).trans rfl), ((cl_ HB hw992_1).trans rfl)⟩ (fun hHeld => ?_)
       clear hK K
       refine nm_ ?_
       refine pw_ 9 27 (tl_ 10 1023) rfl rfl ?_
       refine done_ (done_of HT_.out (g0_)) ?_
       try go_wp2
       go_roundg kj2
       case measure => have := HK1.out; have := HJ2.out; omega
       case rel => exact ⟨(wrap64 (x5_1 + 1)), (g3_), H', ⟨by have := HK1.out; have := HJ2.out; omega⟩, ⟨qz53_⟩⟩
     ·replace c5 := Bool.eq_false_iff.mpr c5
      subst c5
      replace H := ifn_ H
      obtain rfl := Option.some.inj H
      go_wp2
      go_ret
      exact ⟨g4_, qz53_⟩
end Go.Proofs.Ytigpmfoagkhaeaa.PU
