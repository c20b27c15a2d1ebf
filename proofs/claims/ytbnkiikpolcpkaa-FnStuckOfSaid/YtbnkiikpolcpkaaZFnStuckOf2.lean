/- FnStuckOf: for every input the law holds. No condition. -/
import Derived.Test.YtbnkiikpolcpkaaZFnStuckOf1
namespace Go.Proofs.Ytbnkiikpolcpkaa.PU
open Go.RowKit Go.Proofs.YtbnkiikpolcpkaaW.PrintWords Go.Proofs.YtbnkiikpolcpkaaW.PrintLast Go.Proofs.YtbnkiikpolcpkaaW.PrintMore
attribute [local go_sem] max2_int min2_int max_two min_two max_three min_three max_four min_four   -- for this text's walks alone
set_option linter.unusedVariables false
set_option linter.unusedSimpArgs false
def impl_afterLot.l0 : Nat → List Int → List Int → List (S47) → Int → Int → Option (List Int)
  | 0, _, _, _, _, _ => none
  | k + 1, x2, x7, x13, x14, x15 => if x15 < x14 then (if 0 ≤ x15 then (if x15 < (x13.length : Int) then (if 0 ≤ ((rd_T47 x13 x15).f0) then (if ((rd_T47 x13 x15).f0) < (x7.length : Int) then (if x15 < (x2.length : Int) then ((some (x7.set (((rd_T47 x13 x15).f0) : Int).toNat (wrap64 ((rd x7 ((rd_T47 x13 x15).f0)) - (wrap64 (((rd_T47 x13 x15).f2) * (rd x2 x15))))) : List Int)).bind fun y296 => (if 0 ≤ ((rd_T47 x13 x15).f1) then (if ((rd_T47 x13 x15).f1) < (x7.length : Int) then (impl_afterLot.l0 k x2 (y296.set (((rd_T47 x13 x15).f1) : Int).toNat (wrap64 ((rd y296 ((rd_T47 x13 x15).f1)) + (wrap64 (((rd_T47 x13 x15).f2) * (rd x2 x15)))))) x13 x14 (wrap64 (x15 + 1))) else (none)) else (none))) else (none)) else (none)) else (none)) else (none)) else (none)) else (some x7)
def impl_afterLot.f (k : Nat) (l0 : List Int) (l1 : List (S47)) (l2 : List Int) : Option (List Int) := (some (([] : List Int) : List Int)).bind fun y286 => (if y286.length + l0.length < 17592186044416 then (impl_afterLot.l0 k l2 (y286 ++ l0) l1 (l1.length : Int) 0) else (none))
theorem impl_afterLot.mono_l : ∀ k, (∀ y0 y1 y2 y3 y4, LeO (impl_afterLot.l0 k y0 y1 y2 y3 y4) (impl_afterLot.l0 (k + 1) y0 y1 y2 y3 y4))
  | 0 => fun _ _ _ _ _ r h => by simp [impl_afterLot.l0] at h
  | k + 1 => by
    have ih0 := impl_afterLot.mono_l k
    · intro y0 y1 y2 y3 y4
      unfold impl_afterLot.l0
      repeat' first
      | (with_reducible exact ih0 _ _ _ _ _)
      | (with_reducible exact LeO.refl _)
      | (with_reducible exact LeO.none _)
      | (with_reducible refine LeO.ite ?_ ?_)
      | (with_reducible refine LeO.bind ?_ (fun _ => ?_))
      | exact ih0 _ _ _ _ _
      | exact LeO.none _
      | refine LeO.ite ?_ ?_
      | refine LeO.bind ?_ (fun _ => ?_)
theorem impl_afterLot.mono : ∀ a0 a1 a2 k, LeO (impl_afterLot.f k a0 a1 a2) (impl_afterLot.f (k + 1) a0 a1 a2) := by
  intro a0 a1 a2 k
  have ih0 := impl_afterLot.mono_l k
  unfold impl_afterLot.f
  repeat' first
      | (with_reducible exact ih0 _ _ _ _ _)
      | (with_reducible exact LeO.refl _)
      | (with_reducible exact LeO.none _)
      | (with_reducible refine LeO.ite ?_ ?_)
      | (with_reducible refine LeO.bind ?_ (fun _ => ?_))
      | exact ih0 _ _ _ _ _
      | exact LeO.none _
      | refine LeO.ite ?_ ?_
      | refine LeO.bind ?_ (fun _ => ?_)
def impl_afterLot.T5 : Bool × List (List Nat × List Nat) := (true, [([], []), ([], []), ([1], [1]), ([0, 2], [0, 2]), ([3], [3]), ([], []), ([5], [5]), ([], []), ([], []), ([7, 8], [7, 8]), ([9], [9]), ([6, 10], [6, 10]), ([4, 11], [4, 11]), ([0, 2, 0, 1, 2, 3, 4, 5, 6, 7, 8, 9, 10, 11, 12], [0, 2]), ([13, 12, 0, 1, 2, 3, 4, 5, 6, 7, 8, 9, 10, 11, 12], [12, 13])])
def impl_afterLot.B5 : List Nat := [0, 0, 2, 7, 15, 0, 32, 0, 0, 384, 896, 2016, 4095, 8191, 16383]
theorem impl_afterLot.tab5 : rtab .any (opsOf Try.f54 5) = impl_afterLot.T5 := by kernel_rfl
theorem impl_afterLot.bits5 : waitsOk impl_afterLot.T5.2 impl_afterLot.B5 = true := by kernel_rfl
def impl_afterLot.T6 : Bool × List (List Nat × List Nat) := (true, [([], []), ([], []), ([1], [1]), ([0, 2], [0, 2]), ([3], [3]), ([], []), ([5], [5]), ([], []), ([], []), ([7, 8], [7, 8]), ([9], [9]), ([6, 10], [6, 10]), ([4, 11], [4, 11]), ([0, 2, 0, 1, 2, 3, 4, 5, 6, 7, 8, 9, 10, 11, 12], [0, 2]), ([13, 12, 0, 1, 2, 3, 4, 5, 6, 7, 8, 9, 10, 11, 12], [12, 13])])
def impl_afterLot.B6 : List Nat := [0, 0, 2, 7, 15, 0, 32, 0, 0, 384, 896, 2016, 4095, 8191, 16383]
theorem impl_afterLot.tab6 : rtab .any (opsOf Try.f54 6) = impl_afterLot.T6 := by kernel_rfl
theorem impl_afterLot.bits6 : waitsOk impl_afterLot.T6.2 impl_afterLot.B6 = true := by kernel_rfl
set_option maxHeartbeats 8000000 in
set_option maxRecDepth 100000 in
theorem impl_afterLot.calls (k : Nat) (A0 : Option Addr) (c0 : Nat) (l0 : List Int) (A1 : Option Addr) (c1 : Nat) (l1 : List (S47)) (A2 : Option Addr) (c2 : Nat) (l2 : List Int) (r : List Int) (w : World) (hr0 : Kd.C (Kd.int .i64) w A0 l0.length l0) (hc0 : l0.length ≤ c0) (hr1 : Kd.C k47 w A1 l1.length l1) (hc1 : l1.length ≤ c1) (hr2 : Kd.C (Kd.int .i64) w A2 l2.length l2) (hc2 : l2.length ≤ c2) (h : impl_afterLot.f k l0 l1 l2 = some r) :
    Calls Try.prog 54 #[.slice A0 l0.length c0, .slice A1 l1.length c1, .slice A2 l2.length c2] w fun e w' => ∃ v0_ : Value, e = .returned (v0_) ∧ Kd.R (Kd.int .i64) 3 w' w.heap.size (fun _ => True) v0_ r ∧ Below w.heap.size w w' := by
  have hu47 := Try.underlying47
  have HR0 := Aside0.mk hr0
  have HC0 := Aside0.mk hc0
  clear hr0 hc0
  have HR1 := Aside0.mk hr1
  have HC1 := Aside0.mk hc1
  clear hr1 hc1
  have HR2 := Aside0.mk hr2
  have HC2 := Aside0.mk hc2
  clear hr2 hc2
  have HB := Aside0.mk (Below.refl w.heap.size w)
  have H : ((some (([] : List Int) : List Int)).bind fun y286 => (if y286.length + l0.length < 17592186044416 then (impl_afterLot.l0 k l2 (y286 ++ l0) l1 (l1.length : Int) 0) else (none))) = some r := h
  clear h
  obtain ⟨y286, hy286⟩ : ∃ y_ : List Int, y_ = (([] : List Int)) := ⟨_, rfl⟩
  replace H : (if y286.length + l0.length < 17592186044416 then (impl_afterLot.l0 k l2 (y286 ++ l0) l1 (l1.length : Int) 0) else (none)) = some r := by first | (rw [hy286]; with_reducible exact H) | (have H2_ := (Option.bind_some _ _).symm.trans H; rw [hy286]; with_reducible exact H2_) | (have H2_ := (Option.bind_some _ _).symm.trans H; with_reducible exact H2_) | with_reducible exact H | (rw [hy286]; exact H) | exact H
  have Ny286 := Aside0.mk hy286
  clear hy286
  by_cases c4 : y286.length + l0.length < 17592186044416
  · rw [if_pos c4] at H
    have LMc4 := Aside0.mk c4
    clear c4
    obtain ⟨y289, hy289⟩ : ∃ y_ : List Int, y_ = (y286 ++ l0) := ⟨_, rfl⟩
    replace H : (impl_afterLot.l0 k l2 y289 l1 (l1.length : Int) 0) = some r := by first | (rw [hy289]; with_reducible exact H) | (have H2_ := (Option.bind_some _ _).symm.trans H; rw [hy289]; with_reducible exact H2_) | (have H2_ := (Option.bind_some _ _).symm.trans H; with_reducible exact H2_) | with_reducible exact H | (rw [hy289]; exact H) | exact H
    have Ny289 := Aside0.mk hy289
    clear hy289
    have H' := Aside0.mk H
    clear H
    go_enter Try.func54, Try.ntmps54
    go_wp2_with (first | ((with_reducible refine gate_dst (N := 10) rfl ?_); refine Kd.R_lit (Kd.int .i64) _ 3 ?hg (N := 10) ?hd (xs := ([] : List Int)) (inner := []) (ok := fun _ => True) (okp := fun _ => True) ?hr ?hp (fun _ hk => hk) trivial (Below.refl _ _) (Nat.le_refl _) (by simp) ?_; (case hd => rfl); (case hg => rfl); (case hr => first | (go_simp; done) | (go_simp; rfl)); (case hp => exact (Reps.none _ _)); intro v287 w5 ho6 hb hg_ hnew_; clear hg_ hnew_; (first | rw [← Ny286.out] at ho6 | (simp only [Int.reduceToNat] at ho6; rw [← Ny286.out] at ho6)); have n0_ := Aside0.mk (Kd.R_lower ho6 (below_size (by repeat (first | (with_reducible first | exact HB.out | apply below_alloc | apply pw_below_drewN | apply below_drew1) | exact HB.out)))); have n1_ := Aside0.mk (below_step (by repeat (first | (with_reducible first | exact HB.out | apply below_alloc | apply pw_below_drewN | apply below_drew1) | exact HB.out)) hb); clear HB; have HO288 := n0_; have HB := n1_; clear n0_ n1_; clear hb ho6) | ((with_reducible refine gate_builtin (b := .append) (xs := #[.tmp 10, .tmp 11]) rfl ?_); at_builtin; refine Kd.R_append_rows (Kd.int .i64) (w0 := w) w.heap.size rfl (.tmp 10) (.tmp 11) 22 3 (.int .i64 0) 8 rfl Try.underlying22 info3 rfl (by decide) (by omega) v287 y286 l0 _ _ _ (fun _ => True) (fun _ => False) rfl rfl ?aO ?aR (fun _ _ h => h) (fun _ h => h.elim) ?aF ?aB ?aS ?aL ?_; (case aR => repeat (first | exact (Kd.C_below HR0.out HB.out) | (with_reducible refine Kd.C_alloc ?_ _) | (with_reducible refine Kd.C_drewN ?_ _) | (with_reducible refine Kd.C_drew ?_))); (case aB => exact (by repeat (first | (with_reducible first | exact HB.out | apply below_alloc | apply pw_below_drewN | apply below_drew1) | exact HB.out))); (case aF => exact (fun _ _ => trivial)); (case aO => exact (by (with_reducible repeat (first | apply Kd.R_alloc | apply Kd.R_drewN | apply Kd.R_drew)); exact HO288.out)); (case aS => exact (below_size (by repeat (first | (with_reducible first | exact HB.out | apply below_alloc | apply pw_below_drewN | apply below_drew1) | exact HB.out)))); (case aL => have := LMc4.out; omega); intro v290 w7 ho hb hg hat; rw [← Ny289.out] at ho; have n0_ := Aside0.mk (hb); have n1_ := Aside0.mk (ho); clear HB; clear HO288; have HB := n0_; have HO291 := n1_; clear n0_ n1_; clear ho hb hg hat))
    go_loopg [15] k (fun kq v15 w' => ∃ (x7_1 : List Int) (x15_1 : Int), v15 = .int .i64 x15_1 ∧ Aside0 (impl_afterLot.l0 kq l2 x7_1 l1 (l1.length : Int) x15_1 = some r) ∧ Aside0 (kq ≤ k) ∧ Aside0 (Kd.R (Kd.int .i64) 3 w' w.heap.size (fun _ => True) v290 x7_1) ∧ Aside0 (Below w.heap.size w w'))
    case atStart => exact ⟨(y289), (0), (by first | rfl | (simp; done) | (simp [*]; done)), H', ⟨Nat.le_refl _⟩, ⟨by (with_reducible repeat (first | apply Kd.R_alloc | apply Kd.R_drewN | apply Kd.R_drew)); exact HO291.out⟩, ⟨by repeat (first | (with_reducible first | exact HB.out | apply below_alloc | apply pw_below_drewN | apply below_drew1) | exact HB.out)⟩⟩
    case round =>
      clear H'
      try clear c1
      try clear c2
      try clear p2
      try clear c4
      try clear c5
      obtain ⟨x7_1, x15_1, rfl, HA, HK1, HO_7, HB⟩ := hrel
      cases gk with
      | zero => exact absurd HA.out (by simp [impl_afterLot.l0])
      | succ k1 =>
        have H := HA.out
        clear HA
        simp only [impl_afterLot.l0] at H
        by_cases c8 : x15_1 < (l1.length : Int)
        · rw [if_pos c8] at H
          have c8b0 : decide (x15_1 < (l1.length : Int)) = true := decide_eq_true c8
          clear c8
          by_cases c9 : 0 ≤ x15_1
          · rw [if_pos c9] at H
            have c9b0 : decide (0 ≤ x15_1) = true := decide_eq_true c9
            clear c9
            by_cases c10 : x15_1 < (l1.length : Int)
            · rw [if_pos c10] at H
              have c10b0 : decide (x15_1 < (l1.length : Int)) = true := decide_eq_true c10
              clear c10
              by_cases c11 : 0 ≤ ((rd_T47 l1 x15_1).f0)
              · rw [if_pos c11] at H
                have c11b0 : decide (0 ≤ ((rd_T47 l1 x15_1).f0)) = true := decide_eq_true c11
                clear c11
                by_cases c12 : ((rd_T47 l1 x15_1).f0) < (x7_1.length : Int)
                · rw [if_pos c12] at H
                  have c12b0 : decide (((rd_T47 l1 x15_1).f0) < (x7_1.length : Int)) = true := decide_eq_true c12
                  clear c12
                  by_cases c13 : x15_1 < (l2.length : Int)
                  · rw [if_pos c13] at H
                    have c13b0 : decide (x15_1 < (l2.length : Int)) = true := decide_eq_true c13
                    clear c13
                    obtain ⟨y296, hy296⟩ : ∃ y_ : List Int, y_ = (x7_1.set (((rd_T47 l1 x15_1).f0) : Int).toNat (wrap64 ((rd x7_1 ((rd_T47 l1 x15_1).f0)) - (wrap64 (((rd_T47 l1 x15_1).f2) * (rd l2 x15_1)))))) := ⟨_, rfl⟩
                    replace H : (if 0 ≤ ((rd_T47 l1 x15_1).f1) then (if ((rd_T47 l1 x15_1).f1) < (x7_1.length : Int) then (impl_afterLot.l0 k1 l2 (y296.set (((rd_T47 l1 x15_1).f1) : Int).toNat (wrap64 ((rd y296 ((rd_T47 l1 x15_1).f1)) + (wrap64 (((rd_T47 l1 x15_1).f2) * (rd l2 x15_1)))))) l1 (l1.length : Int) (wrap64 (x15_1 + 1))) else (none)) else (none)) = some r := by first | (rw [hy296]; with_reducible exact H) | (have H2_ := (Option.bind_some _ _).symm.trans H; rw [hy296]; with_reducible exact H2_) | (have H2_ := (Option.bind_some _ _).symm.trans H; with_reducible exact H2_) | with_reducible exact H | (rw [hy296]; exact H) | exact H
                    have Ny296 := Aside0.mk hy296
                    clear hy296
                    by_cases c15 : 0 ≤ ((rd_T47 l1 x15_1).f1)
                    · rw [if_pos c15] at H
                      have c15b0 : decide (0 ≤ ((rd_T47 l1 x15_1).f1)) = true := decide_eq_true c15
                      clear c15
                      by_cases c16 : ((rd_T47 l1 x15_1).f1) < (x7_1.length : Int)
                      · rw [if_pos c16] at H
                        have c16b0 : decide (((rd_T47 l1 x15_1).f1) < (x7_1.length : Int)) = true := decide_eq_true c16
                        clear c16
                        obtain ⟨y299, hy299⟩ : ∃ y_ : List Int, y_ = (y296.set (((rd_T47 l1 x15_1).f1) : Int).toNat (wrap64 ((rd y296 ((rd_T47 l1 x15_1).f1)) + (wrap64 (((rd_T47 l1 x15_1).f2) * (rd l2 x15_1)))))) := ⟨_, rfl⟩
                        replace H : (impl_afterLot.l0 k1 l2 y299 l1 (l1.length : Int) (wrap64 (x15_1 + 1))) = some r := by first | (rw [hy299]; with_reducible exact H) | (have H2_ := (Option.bind_some _ _).symm.trans H; rw [hy299]; with_reducible exact H2_) | (have H2_ := (Option.bind_some _ _).symm.trans H; with_reducible exact H2_) | with_reducible exact H | (rw [hy299]; exact H) | exact H
                        have Ny299 := Aside0.mk hy299
                        clear hy299
                        have H' := Aside0.mk H
                        clear H
                        have p292 : 0 ≤ (x15_1 : Int) := of_decide_eq_true (by first | (with_reducible assumption) | assumption)
                        have q292 : x15_1 < (l1.length : Int) := of_decide_eq_true (by first | (with_reducible assumption) | assumption)
                        obtain ⟨ad292, e292, hx292_0, hx292_1, hx292_2⟩ := at_T47 HR1.out x15_1 p292 q292
                        cases e292
                        replace hx292_0 := (HB.out.cell (World.block_lt_of_cell? w _ hx292_0)).trans hx292_0
                        replace hx292_1 := (HB.out.cell (World.block_lt_of_cell? w _ hx292_1)).trans hx292_1
                        replace hx292_2 := (HB.out.cell (World.block_lt_of_cell? w _ hx292_2)).trans hx292_2
                        replace p292 := eq_true p292
                        replace q292 := eq_true q292
                        try go_wp2_with (first | ((with_reducible refine gate_dst (N := 9) rfl ?_); refine box_event ?hg (N := 9) ?hd (cs := #[.int .i64 0, .int .i64 0, .int .i64 0]) (t := 47) ?hr ?_; (case hd => rfl); (case hg => rfl); (case hr => first | (go_simp; done) | (go_simp; rfl)); intro gb293 hg w18 hbox hb; have n0_ := Aside0.mk (Kd.R_below (by (with_reducible repeat (first | apply Kd.R_alloc | apply Kd.R_drewN | apply Kd.R_drew)); exact HO_7.out) hb); have n1_ := Aside0.mk (below_step (by repeat (first | (with_reducible first | exact HB.out | apply below_alloc | apply pw_below_drewN | apply below_drew1) | exact HB.out)) hb); have n2_ := Aside0.mk (hbox); have n3_ := Aside0.mk ((by rw [hg]; exact (below_size (by repeat (first | (with_reducible first | exact HB.out | apply below_alloc | apply pw_below_drewN | apply below_drew1) | exact HB.out))) : w.heap.size ≤ gb293)); have n4_ := Aside0.mk ((by rw [hg]; exact (below_size (by repeat (first | (with_reducible first | exact HB.out | apply below_alloc | apply pw_below_drewN | apply below_drew1) | exact HB.out))) : w.heap.size ≤ gb293)); clear HO_7; clear HB; have HO_7 := n0_; have HB := n1_; have BK293 := n2_; have GW293 := n3_; have GE293 := n4_; clear n0_ n1_ n2_ n3_ n4_; clear hb hbox hg; have hcz19_0 : w18.cell? ⟨gb293, 0, none⟩ = some (.int .i64 0) := (blk_cell BK293.out 0).trans rfl; have hcz19_1 : w18.cell? ⟨gb293, 1, none⟩ = some (.int .i64 0) := (blk_cell BK293.out 1).trans rfl; have hcz19_2 : w18.cell? ⟨gb293, 2, none⟩ = some (.int .i64 0) := (blk_cell BK293.out 2).trans rfl; have hfz19_0 := blk_frozen BK293.out 0; have hfz19_1 := blk_frozen BK293.out 1; have hfz19_2 := blk_frozen BK293.out 2))
                        have n0_ : Aside0 (Kd.R (Kd.int .i64) 3 (((w18.setCell ⟨gb293, 0, none⟩ (.int .i64 ((rd_T47 l1 x15_1).f0))).setCell ⟨gb293, 1, none⟩ (.int .i64 ((rd_T47 l1 x15_1).f1))).setCell ⟨gb293, 2, none⟩ (.int .i64 ((rd_T47 l1 x15_1).f2))) w.heap.size (fun _ => True) v290 x7_1) := ⟨by (with_reducible repeat (first | apply Kd.R_alloc | apply Kd.R_drewN | apply Kd.R_drew)); exact Kd.R_mono (Kd.R_far (p := ⟨gb293, 2, none⟩) (Kd.R_far (p := ⟨gb293, 1, none⟩) (Kd.R_far (p := ⟨gb293, 0, none⟩) (Kd.R_types HO_7.out BK293.out (by decide)) (fun _ hk => hk.2) (.int .i64 ((rd_T47 l1 x15_1).f0))) (fun _ hk => hk.2) (.int .i64 ((rd_T47 l1 x15_1).f1))) (fun _ hk => hk.2) (.int .i64 ((rd_T47 l1 x15_1).f2))) (fun _ hk => trivial)⟩
                        have n1_ : Aside0 ((((w18.setCell ⟨gb293, 0, none⟩ (.int .i64 ((rd_T47 l1 x15_1).f0))).setCell ⟨gb293, 1, none⟩ (.int .i64 ((rd_T47 l1 x15_1).f1))).setCell ⟨gb293, 2, none⟩ (.int .i64 ((rd_T47 l1 x15_1).f2))).heap[gb293]? = some (.cells #[.int .i64 ((rd_T47 l1 x15_1).f0), .int .i64 ((rd_T47 l1 x15_1).f1), .int .i64 ((rd_T47 l1 x15_1).f2)] 47 (0, 0))) := ⟨by (with_reducible repeat (first | refine blk_drewN ?_ _ | refine blk_drew ?_ | refine blk_alloc ?_ _)); refine blk_put (cs := #[.int .i64 ((rd_T47 l1 x15_1).f0), .int .i64 ((rd_T47 l1 x15_1).f1), .int .i64 0]) ?_ 2 _ rfl; (with_reducible repeat (first | refine blk_drewN ?_ _ | refine blk_drew ?_ | refine blk_alloc ?_ _)); refine blk_put (cs := #[.int .i64 ((rd_T47 l1 x15_1).f0), .int .i64 0, .int .i64 0]) ?_ 1 _ rfl; (with_reducible repeat (first | refine blk_drewN ?_ _ | refine blk_drew ?_ | refine blk_alloc ?_ _)); refine blk_put (cs := #[.int .i64 0, .int .i64 0, .int .i64 0]) ?_ 0 _ rfl; (with_reducible repeat (first | refine blk_drewN ?_ _ | refine blk_drew ?_ | refine blk_alloc ?_ _)); exact BK293.out⟩
                        have n2_ : Aside0 (Below w.heap.size w (((w18.setCell ⟨gb293, 0, none⟩ (.int .i64 ((rd_T47 l1 x15_1).f0))).setCell ⟨gb293, 1, none⟩ (.int .i64 ((rd_T47 l1 x15_1).f1))).setCell ⟨gb293, 2, none⟩ (.int .i64 ((rd_T47 l1 x15_1).f2)))) := ⟨by repeat (first | (with_reducible first | exact HB.out | apply below_alloc | apply pw_below_drewN | apply below_drew1 | refine below_set ?_ GE293.out) | exact HB.out)⟩
                        (try clear HO_7)
                        (try clear BK293)
                        (try clear HB)
                        generalize (((w18.setCell ⟨gb293, 0, none⟩ (.int .i64 ((rd_T47 l1 x15_1).f0))).setCell ⟨gb293, 1, none⟩ (.int .i64 ((rd_T47 l1 x15_1).f1))).setCell ⟨gb293, 2, none⟩ (.int .i64 ((rd_T47 l1 x15_1).f2))) = w20 at n0_ n1_ n2_ ⊢
                        have HO_7 := n0_
                        have BK293 := n1_
                        have HB := n2_
                        clear n0_ n1_ n2_
                        have n0_ := Aside0.mk (Kd.R_drew HO_7.out)
                        have n1_ := Aside0.mk (blk_drew BK293.out)
                        have n2_ := Aside0.mk (below_drew1 HB.out)
                        clear HO_7
                        clear BK293
                        clear HB
                        have HO_7 := n0_
                        have BK293 := n1_
                        have HB := n2_
                        clear n0_ n1_ n2_
                        obtain ⟨Ao22, co22, eo22⟩ := Kd.R_slice HO_7.out
                        (first | subst eo22 | (injection eo22 with f1_ f2_ f3_; have f4_ := f1_.symm; have f5_ := f3_.symm; clear f1_ f2_ f3_; subst f4_; subst f5_))
                        have p294 : 0 ≤ (((rd_T47 l1 x15_1).f0) : Int) := of_decide_eq_true (by first | (with_reducible assumption) | assumption)
                        have q294 : ((rd_T47 l1 x15_1).f0) < (x7_1.length : Int) := of_decide_eq_true (by first | (with_reducible assumption) | assumption)
                        obtain ⟨ad294, e294, hx294_0⟩ := Kd.at_int (Kd.R_reads' HO_7.out).2.2 ((rd_T47 l1 x15_1).f0) p294 q294
                        cases e294
                        replace p294 := eq_true p294
                        replace q294 := eq_true q294
                        have p295 : 0 ≤ (x15_1 : Int) := of_decide_eq_true (by first | (with_reducible assumption) | assumption)
                        have q295 : x15_1 < (l2.length : Int) := of_decide_eq_true (by first | (with_reducible assumption) | assumption)
                        obtain ⟨ad295, e295, hx295_0⟩ := Kd.at_int HR2.out x15_1 p295 q295
                        have hw295_0 := hx295_0
                        cases e295
                        replace hx295_0 := (HB.out.cell (World.block_lt_of_cell? w _ hx295_0)).trans hx295_0
                        replace p295 := eq_true p295
                        replace q295 := eq_true q295
                        have p14 : 0 ≤ (((rd_T47 l1 x15_1).f0) : Int) := of_decide_eq_true (by first | (with_reducible assumption) | assumption)
                        have q14 : (((rd_T47 l1 x15_1).f0) : Int) < ((x7_1.length : Int) : Int) := of_decide_eq_true (by first | (with_reducible assumption) | assumption)
                        obtain ⟨go14, co14, eo14, gb14, gl14, cl14, HG14⟩ := Kd.R_form HO_7.out (by omega)
                        (first | cases eo14 | (injection eo14 with ea_ en_ ec_; (first | subst ea_ | (injection ea_ with ea_; subst ea_)); subst ec_; clear en_))
                        have GB14 := Aside0.mk gb14
                        have GG14 := Aside0.mk HG14
                        clear gb14 gl14 HG14
                        (first | simp only [add_plain] at hx294_0 | skip)
                        obtain ⟨hx14_0, hf14_0⟩ := Kd.R_celln 0 HO_7.out (((rd_T47 l1 x15_1).f0) : Int) p14 q14
                        replace p14 := eq_true p14
                        replace q14 := eq_true q14
                        have HP23 := Kd.R_putn HO_7.out (((rd_T47 l1 x15_1).f0) : Int) (wrap64 ((rd x7_1 ((rd_T47 l1 x15_1).f0)) - (wrap64 (((rd_T47 l1 x15_1).f2) * (rd l2 x15_1)))))
                        rw [← Ny296.out] at HP23
                        have HQ23 := Aside0.mk HP23
                        clear HP23
                        refine start_ (n := 15) (S := fun w' => w'.cell? ⟨gb293, 0, none⟩ = some (.int .i64 ((rd_T47 l1 x15_1).f0)) ∧ w'.cell? ⟨gb293, 1, none⟩ = some (.int .i64 ((rd_T47 l1 x15_1).f1)) ∧ w'.cell? ⟨gb293, 2, none⟩ = some (.int .i64 ((rd_T47 l1 x15_1).f2)) ∧ w'.cell? ⟨go14, (((rd_T47 l1 x15_1).f0)).toNat, none⟩ = some (.int .i64 (rd x7_1 ((rd_T47 l1 x15_1).f0))) ∧ w'.cell? (ad295.add (x15_1).toNat) = some (.int .i64 (rd l2 x15_1))) (ds := [14]) #[false, false, false, false, false, false, false, false, false, false, false, false, false, false, false] (by kernel_rfl) rfl rfl ⟨(blk_cell BK293.out 0).trans rfl, (blk_cell BK293.out 1).trans rfl, (blk_cell BK293.out 2).trans rfl, hx294_0, ((HB.out.cell (World.block_lt_of_cell? w _ hw295_0)).trans hw295_0)⟩ (fun hHeld => ?_); refine with_tabW impl_afterLot.tab5 impl_afterLot.bits5 (fun HT_ HW_ => ?_)
                        generalize w20.drew = w21 at HO_7 BK293 HB GG14 HQ23 hf14_0 hx14_0 hx294_0 hx295_0 hHeld ⊢
                        refine pure_ (i := 0) (N := some 20) (v := ?_) (a' := ?_) #[true, false, false, false, false, false, false, false, false, false, false, false, false, false, false] rfl rfl (any_of HT_.out (by kernel_rfl)) (fun _ _ _ h => h) (Or.inl ⟨by rfl, ?_⟩) ?_ ?_
                        rotate_left
                        · intro w'
                          go_simp
                          with_reducible rfl
                        rotate_left
                        · simp only [Act.put, List.setIfInBounds_toArray, List.set_cons_zero, List.set_cons_succ, i64_w, i32_w]
                          rfl
                        refine pure_ (i := 1) (N := some 21) (v := ?_) (a' := ?_) #[true, true, false, false, false, false, false, false, false, false, false, false, false, false, false] rfl rfl (any_of HT_.out (by kernel_rfl)) (fun _ _ _ h => h) (Or.inl ⟨by rfl, ?_⟩) ?_ ?_
                        rotate_left
                        · intro w'
                          go_simp
                          with_reducible rfl
                        rotate_left
                        · simp only [Act.put, List.setIfInBounds_toArray, List.set_cons_zero, List.set_cons_succ, i64_w, i32_w]
                          rfl
                        refine pure_ (i := 5) (N := some 25) (v := ?_) (a' := ?_) #[true, true, false, false, false, true, false, false, false, false, false, false, false, false, false] rfl rfl (any_of HT_.out (by kernel_rfl)) (fun _ _ _ h => h) (Or.inl ⟨by rfl, ?_⟩) ?_ ?_
                        rotate_left
                        · intro w'
                          go_simp
                          with_reducible rfl
                        rotate_left
                        · simp only [Act.put, List.setIfInBounds_toArray, List.set_cons_zero, List.set_cons_succ, i64_w, i32_w]
                          rfl
                        refine pure_ (i := 7) (N := some 27) (v := ?_) (a' := ?_) #[true, true, false, false, false, true, false, true, false, false, false, false, false, false, false] rfl rfl (any_of HT_.out (by kernel_rfl)) (fun _ _ _ h => h) (Or.inl ⟨by rfl, ?_⟩) ?_ ?_
                        rotate_left
                        · intro w'
                          go_simp
                          with_reducible rfl
                        rotate_left
                        · simp only [Act.put, List.setIfInBounds_toArray, List.set_cons_zero, List.set_cons_succ, i64_w, i32_w]
                          rfl
                        refine pure_ (i := 8) (N := some 28) (v := ?_) (a' := ?_) #[true, true, false, false, false, true, false, true, true, false, false, false, false, false, false] rfl rfl (any_of HT_.out (by kernel_rfl)) (fun _ _ _ h => h) (Or.inl ⟨by rfl, ?_⟩) ?_ ?_
                        rotate_left
                        · intro w'
                          go_simp
                          with_reducible rfl
                        rotate_left
                        · simp only [Act.put, List.setIfInBounds_toArray, List.set_cons_zero, List.set_cons_succ, i64_w, i32_w]
                          rfl
                        refine pure_ (i := 9) (N := some 29) (v := ?_) (a' := ?_) #[true, true, false, false, false, true, false, true, true, true, false, false, false, false, false] rfl rfl (any_of HT_.out (by kernel_rfl)) (fun _ _ _ h => h) (Or.inl ⟨by rfl, ?_⟩) ?_ ?_
                        rotate_left
                        · intro w'
                          go_simp
                          with_reducible rfl
                        rotate_left
                        · simp only [Act.put, List.setIfInBounds_toArray, List.set_cons_zero, List.set_cons_succ, i64_w, i32_w]
                          rfl
                        refine take_ (i := 2) (N := some 22) (v := ?_) (a' := ?_) #[true, true, true, false, false, true, false, true, true, true, false, false, false, false, false] rfl rfl (take_ofW HT_.out HW_.out (by kernel_rfl)) (fun _ _ _ h => h) (Or.inl ⟨by rfl, ?_⟩) hHeld ?_ ?_
                        rotate_left
                        · rintro w' ⟨s0, s1, s2, s3, s4⟩
                          go_simp
                          with_reducible rfl
                        rotate_left
                        · simp only [Act.put, List.setIfInBounds_toArray, List.set_cons_zero, List.set_cons_succ, i64_w, i32_w]
                          rfl
                        refine pure_ (i := 3) (N := some 23) (v := ?_) (a' := ?_) #[true, true, true, true, false, true, false, true, true, true, false, false, false, false, false] rfl rfl (any_of HT_.out (by kernel_rfl)) (fun _ _ _ h => h) (Or.inl ⟨by rfl, ?_⟩) ?_ ?_
                        rotate_left
                        · intro w'
                          go_simp
                          with_reducible rfl
                        rotate_left
                        · simp only [Act.put, List.setIfInBounds_toArray, List.set_cons_zero, List.set_cons_succ, i64_w, i32_w]
                          rfl
                        refine take_ (i := 4) (N := some 24) (v := ?_) (a' := ?_) #[true, true, true, true, true, true, false, true, true, true, false, false, false, false, false] rfl rfl (take_ofW HT_.out HW_.out (by kernel_rfl)) (fun _ _ _ h => h) (Or.inl ⟨by rfl, ?_⟩) hHeld ?_ ?_
                        rotate_left
                        · rintro w' ⟨s0, s1, s2, s3, s4⟩
                          go_simp
                          with_reducible rfl
                        rotate_left
                        · simp only [Act.put, List.setIfInBounds_toArray, List.set_cons_zero, List.set_cons_succ, i64_w, i32_w]
                          rfl
                        refine take_ (i := 6) (N := some 26) (v := ?_) (a' := ?_) #[true, true, true, true, true, true, true, true, true, true, false, false, false, false, false] rfl rfl (take_ofW HT_.out HW_.out (by kernel_rfl)) (fun _ _ _ h => h) (Or.inl ⟨by rfl, ?_⟩) hHeld ?_ ?_
                        rotate_left
                        · rintro w' ⟨s0, s1, s2, s3, s4⟩
                          go_simp
                          with_reducible rfl
                        rotate_left
                        · simp only [Act.put, List.setIfInBounds_toArray, List.set_cons_zero, List.set_cons_succ, i64_w, i32_w]
                          rfl
                        refine take_ (i := 10) (N := some 30) (v := ?_) (a' := ?_) #[true, true, true, true, true, true, true, true, true, true, true, false, false, false, false] rfl rfl (take_ofW HT_.out HW_.out (by kernel_rfl)) (fun _ _ _ h => h) (Or.inl ⟨by rfl, ?_⟩) hHeld ?_ ?_
                        rotate_left
                        · rintro w' ⟨s0, s1, s2, s3, s4⟩
                          go_simp
                          with_reducible rfl
                        rotate_left
                        · simp only [Act.put, List.setIfInBounds_toArray, List.set_cons_zero, List.set_cons_succ, i64_w, i32_w]
                          rfl
                        refine pure_ (i := 11) (N := some 31) (v := ?_) (a' := ?_) #[true, true, true, true, true, true, true, true, true, true, true, true, false, false, false] rfl rfl (any_of HT_.out (by kernel_rfl)) (fun _ _ _ h => h) (Or.inl ⟨by rfl, ?_⟩) ?_ ?_
                        rotate_left
                        · intro w'
                          go_simp
                          with_reducible rfl
                        rotate_left
                        · simp only [Act.put, List.setIfInBounds_toArray, List.set_cons_zero, List.set_cons_succ, i64_w, i32_w]
                          rfl
                        refine pure_ (i := 12) (N := some 32) (v := ?_) (a' := ?_) #[true, true, true, true, true, true, true, true, true, true, true, true, true, false, false] rfl rfl (any_of HT_.out (by kernel_rfl)) (fun _ _ _ h => h) (Or.inl ⟨by rfl, ?_⟩) ?_ ?_
                        rotate_left
                        · intro w'
                          go_simp
                          with_reducible rfl
                        rotate_left
                        · simp only [Act.put, List.setIfInBounds_toArray, List.set_cons_zero, List.set_cons_succ, i64_w, i32_w]
                          rfl
                        refine pure_ (i := 13) (N := some 33) (v := ?_) (a' := ?_) #[true, true, true, true, true, true, true, true, true, true, true, true, true, true, false] rfl rfl (any_of HT_.out (by kernel_rfl)) (fun _ _ _ h => h) (Or.inl ⟨by rfl, ?_⟩) ?_ ?_
                        rotate_left
                        · intro w'
                          go_simp
                          with_reducible rfl
                        rotate_left
                        · simp only [Act.put, List.setIfInBounds_toArray, List.set_cons_zero, List.set_cons_succ, i64_w, i32_w]
                          rfl
                        refine last_ (i := 14) (N := none) #[true, true, true, true, true, true, true, true, true, true, true, true, true, true, true] rfl rfl (one_of HT_.out (by kernel_rfl)) (by decide) (fun K hK => ?_)
                        refine skip_ (w1 := ?_) (by rfl) rfl ?_ ?_
                        rotate_left
                        · go_simp
                          rfl
                        refine hK.out _ _ ?_
                        clear hK K
                        refine done_ (done_of HT_.out (by kernel_rfl)) ?_
                        try go_wp2
                        have n0_ : Aside0 (Kd.R (Kd.int .i64) 3 (w21.setCell ⟨go14, (((rd_T47 l1 x15_1).f0) : Int).toNat, none⟩ (.int .i64 (wrap64 ((rd x7_1 ((rd_T47 l1 x15_1).f0)) - (wrap64 (((rd_T47 l1 x15_1).f2) * (rd l2 x15_1))))))) w.heap.size (fun _ => True) (.slice (some ⟨go14, 0, none⟩) x7_1.length co22) y296) := ⟨by (with_reducible repeat (first | apply Kd.R_alloc | apply Kd.R_drewN | apply Kd.R_drew)); exact HQ23.out⟩
                        have n1_ : Aside0 ((w21.setCell ⟨go14, (((rd_T47 l1 x15_1).f0) : Int).toNat, none⟩ (.int .i64 (wrap64 ((rd x7_1 ((rd_T47 l1 x15_1).f0)) - (wrap64 (((rd_T47 l1 x15_1).f2) * (rd l2 x15_1))))))).heap[gb293]? = some (.cells #[.int .i64 ((rd_T47 l1 x15_1).f0), .int .i64 ((rd_T47 l1 x15_1).f1), .int .i64 ((rd_T47 l1 x15_1).f2)] 47 (0, 0))) := ⟨by (with_reducible repeat (first | refine blk_drewN ?_ _ | refine blk_drew ?_ | refine blk_alloc ?_ _)); refine blk_far ?_ (by have h_ := Kd.R_ne HO_7.out BK293.out (by decide); intro e_; exact h_ (by rw [e_]; rfl)) _; (with_reducible repeat (first | refine blk_drewN ?_ _ | refine blk_drew ?_ | refine blk_alloc ?_ _)); exact BK293.out⟩
                        have n2_ : Aside0 (Below w.heap.size w (w21.setCell ⟨go14, (((rd_T47 l1 x15_1).f0) : Int).toNat, none⟩ (.int .i64 (wrap64 ((rd x7_1 ((rd_T47 l1 x15_1).f0)) - (wrap64 (((rd_T47 l1 x15_1).f2) * (rd l2 x15_1)))))))) := ⟨by repeat (first | (with_reducible first | exact HB.out | apply below_alloc | apply pw_below_drewN | apply below_drew1 | refine below_set ?_ GB14.out | refine below_set ?_ GE293.out) | exact HB.out)⟩
                        (try clear HO_7)
                        (try clear BK293)
                        (try clear HB)
                        generalize (w21.setCell ⟨go14, (((rd_T47 l1 x15_1).f0) : Int).toNat, none⟩ (.int .i64 (wrap64 ((rd x7_1 ((rd_T47 l1 x15_1).f0)) - (wrap64 (((rd_T47 l1 x15_1).f2) * (rd l2 x15_1))))))) = w24 at n0_ n1_ n2_ ⊢
                        have HO_7 := n0_
                        have BK293 := n1_
                        have HB := n2_
                        clear n0_ n1_ n2_
                        have n0_ := Aside0.mk (Kd.R_drew HO_7.out)
                        have n1_ := Aside0.mk (blk_drew BK293.out)
                        have n2_ := Aside0.mk (below_drew1 HB.out)
                        clear HO_7
                        clear BK293
                        clear HB
                        have HO_7 := n0_
                        have BK293 := n1_
                        have HB := n2_
                        clear n0_ n1_ n2_
                        have p297 : 0 ≤ (((rd_T47 l1 x15_1).f1) : Int) := of_decide_eq_true (by first | (with_reducible assumption) | assumption)
                        have q297 : ((rd_T47 l1 x15_1).f1) < (y296.length : Int) := (by have h_ : (((rd_T47 l1 x15_1).f1) : Int) < ((x7_1.length : Int) : Int) := of_decide_eq_true (by first | (with_reducible assumption) | assumption); first | (have e_ := (Kd.R_reads' HO_7.out).1; omega) | simpa only [Ny296.out, List.length_set] using h_)
                        have ql297 : ((((rd_T47 l1 x15_1).f1) : Int) < ((x7_1.length : Int) : Int)) = True := eq_true (of_decide_eq_true (by first | (with_reducible assumption) | assumption))
                        obtain ⟨ad297, e297, hx297_0⟩ := Kd.at_int (Kd.R_reads' HO_7.out).2.2 ((rd_T47 l1 x15_1).f1) p297 q297
                        obtain rfl : (⟨go14, 0, none⟩ : Addr) = ad297 := (by injection e297)
                        (first | simp only [add_plain] at hx297_0 | simp only [add_at] at hx297_0 | simp only [Addr.add, Nat.zero_add] at hx297_0 | skip)
                        replace p297 := eq_true p297
                        replace q297 := eq_true q297
                        have p298 : 0 ≤ (x15_1 : Int) := of_decide_eq_true (by first | (with_reducible assumption) | assumption)
                        have q298 : x15_1 < (l2.length : Int) := of_decide_eq_true (by first | (with_reducible assumption) | assumption)
                        obtain ⟨ad298, e298, hx298_0⟩ := Kd.at_int HR2.out x15_1 p298 q298
                        have hw298_0 := hx298_0
                        obtain rfl : ad295 = ad298 := (by injection e298)
                        replace hx298_0 := (HB.out.cell (World.block_lt_of_cell? w _ hx298_0)).trans hx298_0
                        replace p298 := eq_true p298
                        replace q298 := eq_true q298
                        have p17 : 0 ≤ (((rd_T47 l1 x15_1).f1) : Int) := of_decide_eq_true (by first | (with_reducible assumption) | assumption)
                        have q17 : (((rd_T47 l1 x15_1).f1) : Int) < ((x7_1.length : Int) : Int) := of_decide_eq_true (by first | (with_reducible assumption) | assumption)
                        obtain ⟨hx17_0, hf17_0⟩ := Kd.R_celln 0 HO_7.out (((rd_T47 l1 x15_1).f1) : Int) p17 q17
                        replace p17 := eq_true p17
                        replace q17 := eq_true q17
                        have HP26 := Kd.R_putn HO_7.out (((rd_T47 l1 x15_1).f1) : Int) (wrap64 ((rd y296 ((rd_T47 l1 x15_1).f1)) + (wrap64 (((rd_T47 l1 x15_1).f2) * (rd l2 x15_1)))))
                        rw [← Ny299.out] at HP26
                        have HQ26 := Aside0.mk HP26
                        clear HP26
                        refine start_ (n := 15) (S := fun w' => w'.cell? ⟨gb293, 0, none⟩ = some (.int .i64 ((rd_T47 l1 x15_1).f0)) ∧ w'.cell? ⟨gb293, 1, none⟩ = some (.int .i64 ((rd_T47 l1 x15_1).f1)) ∧ w'.cell? ⟨gb293, 2, none⟩ = some (.int .i64 ((rd_T47 l1 x15_1).f2)) ∧ w'.cell? ⟨go14, (((rd_T47 l1 x15_1).f1)).toNat, none⟩ = some (.int .i64 (rd y296 ((rd_T47 l1 x15_1).f1))) ∧ w'.cell? (ad295.add (x15_1).toNat) = some (.int .i64 (rd l2 x15_1))) (ds := [14]) #[false, false, false, false, false, false, false, false, false, false, false, false, false, false, false] (by kernel_rfl) rfl rfl ⟨(blk_cell BK293.out 0).trans rfl, (blk_cell BK293.out 1).trans rfl, (blk_cell BK293.out 2).trans rfl, hx297_0, ((HB.out.cell (World.block_lt_of_cell? w _ hw298_0)).trans hw298_0)⟩ (fun hHeld => ?_); refine with_tabW impl_afterLot.tab6 impl_afterLot.bits6 (fun HT_ HW_ => ?_)
                        generalize w24.drew = w25 at HO_7 BK293 HB HQ23 HQ26 hf17_0 hx17_0 hx297_0 hx298_0 hHeld ⊢
                        refine pure_ (i := 0) (N := some 34) (v := ?_) (a' := ?_) #[true, false, false, false, false, false, false, false, false, false, false, false, false, false, false] rfl rfl (any_of HT_.out (by kernel_rfl)) (fun _ _ _ h => h) (Or.inl ⟨by rfl, ?_⟩) ?_ ?_
                        rotate_left
                        · intro w'
                          go_simp
                          with_reducible rfl
                        rotate_left
                        · simp only [Act.put, List.setIfInBounds_toArray, List.set_cons_zero, List.set_cons_succ, i64_w, i32_w]
                          rfl
                        refine pure_ (i := 1) (N := some 35) (v := ?_) (a' := ?_) #[true, true, false, false, false, false, false, false, false, false, false, false, false, false, false] rfl rfl (any_of HT_.out (by kernel_rfl)) (fun _ _ _ h => h) (Or.inl ⟨by rfl, ?_⟩) ?_ ?_
                        rotate_left
                        · intro w'
                          go_simp
                          with_reducible rfl
                        rotate_left
                        · simp only [Act.put, List.setIfInBounds_toArray, List.set_cons_zero, List.set_cons_succ, i64_w, i32_w]
                          rfl
                        refine pure_ (i := 5) (N := some 39) (v := ?_) (a' := ?_) #[true, true, false, false, false, true, false, false, false, false, false, false, false, false, false] rfl rfl (any_of HT_.out (by kernel_rfl)) (fun _ _ _ h => h) (Or.inl ⟨by rfl, ?_⟩) ?_ ?_
                        rotate_left
                        · intro w'
                          go_simp
                          with_reducible rfl
                        rotate_left
                        · simp only [Act.put, List.setIfInBounds_toArray, List.set_cons_zero, List.set_cons_succ, i64_w, i32_w]
                          rfl
                        refine pure_ (i := 7) (N := some 41) (v := ?_) (a' := ?_) #[true, true, false, false, false, true, false, true, false, false, false, false, false, false, false] rfl rfl (any_of HT_.out (by kernel_rfl)) (fun _ _ _ h => h) (Or.inl ⟨by rfl, ?_⟩) ?_ ?_
                        rotate_left
                        · intro w'
                          go_simp
                          with_reducible rfl
                        rotate_left
                        · simp only [Act.put, List.setIfInBounds_toArray, List.set_cons_zero, List.set_cons_succ, i64_w, i32_w]
                          rfl
                        refine pure_ (i := 8) (N := some 42) (v := ?_) (a' := ?_) #[true, true, false, false, false, true, false, true, true, false, false, false, false, false, false] rfl rfl (any_of HT_.out (by kernel_rfl)) (fun _ _ _ h => h) (Or.inl ⟨by rfl, ?_⟩) ?_ ?_
                        rotate_left
                        · intro w'
                          go_simp
                          with_reducible rfl
                        rotate_left
                        · simp only [Act.put, List.setIfInBounds_toArray, List.set_cons_zero, List.set_cons_succ, i64_w, i32_w]
                          rfl
                        refine pure_ (i := 9) (N := some 43) (v := ?_) (a' := ?_) #[true, true, false, false, false, true, false, true, true, true, false, false, false, false, false] rfl rfl (any_of HT_.out (by kernel_rfl)) (fun _ _ _ h => h) (Or.inl ⟨by rfl, ?_⟩) ?_ ?_
                        rotate_left
                        · intro w'
                          go_simp
                          with_reducible rfl
                        rotate_left
                        · simp only [Act.put, List.setIfInBounds_toArray, List.set_cons_zero, List.set_cons_succ, i64_w, i32_w]
                          rfl
                        refine take_ (i := 2) (N := some 36) (v := ?_) (a' := ?_) #[true, true, true, false, false, true, false, true, true, true, false, false, false, false, false] rfl rfl (take_ofW HT_.out HW_.out (by kernel_rfl)) (fun _ _ _ h => h) (Or.inl ⟨by rfl, ?_⟩) hHeld ?_ ?_
                        rotate_left
                        · rintro w' ⟨s0, s1, s2, s3, s4⟩
                          go_simp
                          with_reducible rfl
                        rotate_left
                        · simp only [Act.put, List.setIfInBounds_toArray, List.set_cons_zero, List.set_cons_succ, i64_w, i32_w]
                          rfl
                        refine pure_ (i := 3) (N := some 37) (v := ?_) (a' := ?_) #[true, true, true, true, false, true, false, true, true, true, false, false, false, false, false] rfl rfl (any_of HT_.out (by kernel_rfl)) (fun _ _ _ h => h) (Or.inl ⟨by rfl, ?_⟩) ?_ ?_
                        rotate_left
                        · intro w'
                          go_simp
                          with_reducible rfl
                        rotate_left
                        · simp only [Act.put, List.setIfInBounds_toArray, List.set_cons_zero, List.set_cons_succ, i64_w, i32_w]
                          rfl
                        refine take_ (i := 4) (N := some 38) (v := ?_) (a' := ?_) #[true, true, true, true, true, true, false, true, true, true, false, false, false, false, false] rfl rfl (take_ofW HT_.out HW_.out (by kernel_rfl)) (fun _ _ _ h => h) (Or.inl ⟨by rfl, ?_⟩) hHeld ?_ ?_
                        rotate_left
                        · rintro w' ⟨s0, s1, s2, s3, s4⟩
                          go_simp
                          with_reducible rfl
                        rotate_left
                        · simp only [Act.put, List.setIfInBounds_toArray, List.set_cons_zero, List.set_cons_succ, i64_w, i32_w]
                          rfl
                        refine take_ (i := 6) (N := some 40) (v := ?_) (a' := ?_) #[true, true, true, true, true, true, true, true, true, true, false, false, false, false, false] rfl rfl (take_ofW HT_.out HW_.out (by kernel_rfl)) (fun _ _ _ h => h) (Or.inl ⟨by rfl, ?_⟩) hHeld ?_ ?_
                        rotate_left
                        · rintro w' ⟨s0, s1, s2, s3, s4⟩
                          go_simp
                          with_reducible rfl
                        rotate_left
                        · simp only [Act.put, List.setIfInBounds_toArray, List.set_cons_zero, List.set_cons_succ, i64_w, i32_w]
                          rfl
                        refine take_ (i := 10) (N := some 44) (v := ?_) (a' := ?_) #[true, true, true, true, true, true, true, true, true, true, true, false, false, false, false] rfl rfl (take_ofW HT_.out HW_.out (by kernel_rfl)) (fun _ _ _ h => h) (Or.inl ⟨by rfl, ?_⟩) hHeld ?_ ?_
                        rotate_left
                        · rintro w' ⟨s0, s1, s2, s3, s4⟩
                          go_simp
                          with_reducible rfl
                        rotate_left
                        · simp only [Act.put, List.setIfInBounds_toArray, List.set_cons_zero, List.set_cons_succ, i64_w, i32_w]
                          rfl
                        refine pure_ (i := 11) (N := some 45) (v := ?_) (a' := ?_) #[true, true, true, true, true, true, true, true, true, true, true, true, false, false, false] rfl rfl (any_of HT_.out (by kernel_rfl)) (fun _ _ _ h => h) (Or.inl ⟨by rfl, ?_⟩) ?_ ?_
                        rotate_left
                        · intro w'
                          go_simp
                          with_reducible rfl
                        rotate_left
                        · simp only [Act.put, List.setIfInBounds_toArray, List.set_cons_zero, List.set_cons_succ, i64_w, i32_w]
                          rfl
                        refine pure_ (i := 12) (N := some 46) (v := ?_) (a' := ?_) #[true, true, true, true, true, true, true, true, true, true, true, true, true, false, false] rfl rfl (any_of HT_.out (by kernel_rfl)) (fun _ _ _ h => h) (Or.inl ⟨by rfl, ?_⟩) ?_ ?_
                        rotate_left
                        · intro w'
                          go_simp
                          with_reducible rfl
                        rotate_left
                        · simp only [Act.put, List.setIfInBounds_toArray, List.set_cons_zero, List.set_cons_succ, i64_w, i32_w]
                          rfl
                        refine pure_ (i := 13) (N := some 47) (v := ?_) (a' := ?_) #[true, true, true, true, true, true, true, true, true, true, true, true, true, true, false] rfl rfl (any_of HT_.out (by kernel_rfl)) (fun _ _ _ h => h) (Or.inl ⟨by rfl, ?_⟩) ?_ ?_
                        rotate_left
                        · intro w'
                          go_simp
                          with_reducible rfl
                        rotate_left
                        · simp only [Act.put, List.setIfInBounds_toArray, List.set_cons_zero, List.set_cons_succ, i64_w, i32_w]
                          rfl
                        refine last_ (i := 14) (N := none) #[true, true, true, true, true, true, true, true, true, true, true, true, true, true, true] rfl rfl (one_of HT_.out (by kernel_rfl)) (by decide) (fun K hK => ?_)
                        refine skip_ (w1 := ?_) (by rfl) rfl ?_ ?_
                        rotate_left
                        · go_simp
                          rfl
                        refine hK.out _ _ ?_
                        clear hK K
                        refine done_ (done_of HT_.out (by kernel_rfl)) ?_
                        try go_wp2
                        go_roundg k1
                        case measure => have := HK1.out; omega
                        case rel => exact ⟨(y299), (wrap64 (x15_1 + 1)), (by first | rfl | (simp; done) | (simp [*]; done)), H', ⟨by have := HK1.out; omega⟩, ⟨by (with_reducible repeat (first | apply Kd.R_alloc | apply Kd.R_drewN | apply Kd.R_drew)); exact HQ26.out⟩, ⟨by repeat (first | (with_reducible first | exact HB.out | apply below_alloc | apply pw_below_drewN | apply below_drew1 | refine below_set ?_ GB14.out | refine below_set ?_ GE293.out) | exact HB.out)⟩⟩
                      · rw [if_neg c16] at H
                        exact absurd H (by simp)
                    · rw [if_neg c15] at H
                      exact absurd H (by simp)
                  · rw [if_neg c13] at H
                    exact absurd H (by simp)
                · rw [if_neg c12] at H
                  exact absurd H (by simp)
              · rw [if_neg c11] at H
                exact absurd H (by simp)
            · rw [if_neg c10] at H
              exact absurd H (by simp)
          · rw [if_neg c9] at H
            exact absurd H (by simp)
        · rw [if_neg c8] at H
          have c8b0 : decide (x15_1 < (l1.length : Int)) = false := decide_eq_false c8
          clear c8
          obtain rfl := Option.some.inj H
          go_wp2
          go_ret
          exact ⟨_, by first | rfl | (simp [errW_none, errW_some] <;> rfl) | (simp [*, errW_none, errW_some] <;> rfl), by (with_reducible repeat (first | apply Kd.R_alloc | apply Kd.R_drewN | apply Kd.R_drew)); exact HO_7.out, by repeat (first | (with_reducible first | exact HB.out | apply below_alloc | apply pw_below_drewN | apply below_drew1) | exact HB.out)⟩
  · rw [if_neg c4] at H
    exact absurd H (by simp)
end Go.Proofs.Ytbnkiikpolcpkaa.PU

namespace Go.Proofs.Ytbnkiikpolcpkaa.PU
open Go.RowKit Go.Proofs.YtbnkiikpolcpkaaW.PrintWords Go.Proofs.YtbnkiikpolcpkaaW.PrintLast Go.Proofs.YtbnkiikpolcpkaaW.PrintMore
attribute [local go_sem] max2_int min2_int max_two min_two max_three min_three max_four min_four   -- for this text's walks alone
set_option linter.unusedVariables false
set_option linter.unusedSimpArgs false
def spec_l8After.l0 : Nat → List (S47) → List Int → List Int → Int → Option (List Int)
  | 0, _, _, _, _ => none
  | k + 1, x1, x2, x7, x8 => if x8 < (x1.length : Int) then (if 0 ≤ x8 then (if x8 < (x2.length : Int) then (if (rd x2 x8) = 1 then (if 0 ≤ ((rd_T47 x1 x8).f0) then (if ((rd_T47 x1 x8).f0) < (x7.length : Int) then ((some (x7.set (((rd_T47 x1 x8).f0) : Int).toNat (wrap64 ((rd x7 ((rd_T47 x1 x8).f0)) - ((rd_T47 x1 x8).f2))) : List Int)).bind fun y268 => (if 0 ≤ ((rd_T47 x1 x8).f1) then (if ((rd_T47 x1 x8).f1) < (x7.length : Int) then (spec_l8After.l0 k x1 x2 (y268.set (((rd_T47 x1 x8).f1) : Int).toNat (wrap64 ((rd y268 ((rd_T47 x1 x8).f1)) + ((rd_T47 x1 x8).f2)))) (wrap64 (x8 + 1))) else (none)) else (none))) else (none)) else (none)) else (spec_l8After.l0 k x1 x2 x7 (wrap64 (x8 + 1)))) else (none)) else (none)) else (some x7)
def spec_l8After.f (k : Nat) (l0 : List Int) (l1 : List (S47)) (l2 : List Int) : Option (List Int) := (some (([] : List Int) : List Int)).bind fun y257 => (if y257.length + l0.length < 17592186044416 then (spec_l8After.l0 k l1 l2 (y257 ++ l0) 0) else (none))
theorem spec_l8After.mono_l : ∀ k, (∀ y0 y1 y2 y3, LeO (spec_l8After.l0 k y0 y1 y2 y3) (spec_l8After.l0 (k + 1) y0 y1 y2 y3))
  | 0 => fun _ _ _ _ r h => by simp [spec_l8After.l0] at h
  | k + 1 => by
    have ih0 := spec_l8After.mono_l k
    · intro y0 y1 y2 y3
      unfold spec_l8After.l0
      repeat' first
      | (with_reducible exact ih0 _ _ _ _)
      | (with_reducible exact LeO.refl _)
      | (with_reducible exact LeO.none _)
      | (with_reducible refine LeO.ite ?_ ?_)
      | (with_reducible refine LeO.bind ?_ (fun _ => ?_))
      | exact ih0 _ _ _ _
      | exact LeO.none _
      | refine LeO.ite ?_ ?_
      | refine LeO.bind ?_ (fun _ => ?_)
theorem spec_l8After.mono : ∀ a0 a1 a2 k, LeO (spec_l8After.f k a0 a1 a2) (spec_l8After.f (k + 1) a0 a1 a2) := by
  intro a0 a1 a2 k
  have ih0 := spec_l8After.mono_l k
  unfold spec_l8After.f
  repeat' first
      | (with_reducible exact ih0 _ _ _ _)
      | (with_reducible exact LeO.refl _)
      | (with_reducible exact LeO.none _)
      | (with_reducible refine LeO.ite ?_ ?_)
      | (with_reducible refine LeO.bind ?_ (fun _ => ?_))
      | exact ih0 _ _ _ _
      | exact LeO.none _
      | refine LeO.ite ?_ ?_
      | refine LeO.bind ?_ (fun _ => ?_)
def spec_l8After.T6 : Bool × List (List Nat × List Nat) := (true, [([], []), ([], []), ([], []), ([1, 2], [1, 2]), ([3], [3]), ([4], [4]), ([], []), ([], []), ([], []), ([7, 8], [7, 8]), ([9], [9]), ([10], [10]), ([6, 11], [6, 11]), ([12], [12]), ([], []), ([], []), ([14, 15], [14, 15]), ([16], [16]), ([17], [17]), ([13, 18], [13, 18]), ([0, 5, 0, 1, 2, 3, 4, 5, 6, 7, 8, 9, 10, 11, 12, 13, 14, 15, 16, 17, 18, 19], [0, 5]), ([20, 19, 0, 1, 2, 3, 4, 5, 6, 7, 8, 9, 10, 11, 12, 13, 14, 15, 16, 17, 18, 19], [19, 20])])
def spec_l8After.B6 : List Nat := [0, 0, 0, 6, 14, 30, 0, 0, 0, 384, 896, 1920, 4032, 8128, 0, 0, 49152, 114688, 245760, 524224, 1048575, 2097151]
theorem spec_l8After.tab6 : rtab .any (opsOf Try.f52 6) = spec_l8After.T6 := by kernel_rfl
theorem spec_l8After.bits6 : waitsOk spec_l8After.T6.2 spec_l8After.B6 = true := by kernel_rfl
def spec_l8After.T7 : Bool × List (List Nat × List Nat) := (true, [([], []), ([], []), ([], []), ([1, 2], [1, 2]), ([3], [3]), ([4], [4]), ([], []), ([], []), ([], []), ([7, 8], [7, 8]), ([9], [9]), ([10], [10]), ([6, 11], [6, 11]), ([12], [12]), ([], []), ([], []), ([14, 15], [14, 15]), ([16], [16]), ([17], [17]), ([13, 18], [13, 18]), ([0, 5, 0, 1, 2, 3, 4, 5, 6, 7, 8, 9, 10, 11, 12, 13, 14, 15, 16, 17, 18, 19], [0, 5]), ([20, 19, 0, 1, 2, 3, 4, 5, 6, 7, 8, 9, 10, 11, 12, 13, 14, 15, 16, 17, 18, 19], [19, 20])])
def spec_l8After.B7 : List Nat := [0, 0, 0, 6, 14, 30, 0, 0, 0, 384, 896, 1920, 4032, 8128, 0, 0, 49152, 114688, 245760, 524224, 1048575, 2097151]
theorem spec_l8After.tab7 : rtab .any (opsOf Try.f52 7) = spec_l8After.T7 := by kernel_rfl
theorem spec_l8After.bits7 : waitsOk spec_l8After.T7.2 spec_l8After.B7 = true := by kernel_rfl
set_option maxHeartbeats 8000000 in
set_option maxRecDepth 100000 in
theorem spec_l8After.calls (k : Nat) (A0 : Option Addr) (c0 : Nat) (l0 : List Int) (A1 : Option Addr) (c1 : Nat) (l1 : List (S47)) (A2 : Option Addr) (c2 : Nat) (l2 : List Int) (r : List Int) (w : World) (hr0 : Kd.C (Kd.int .i64) w A0 l0.length l0) (hc0 : l0.length ≤ c0) (hr1 : Kd.C k47 w A1 l1.length l1) (hc1 : l1.length ≤ c1) (hr2 : Kd.C (Kd.int .i64) w A2 l2.length l2) (hc2 : l2.length ≤ c2) (h : spec_l8After.f k l0 l1 l2 = some r) :
    Calls Try.prog 52 #[.slice A0 l0.length c0, .slice A1 l1.length c1, .slice A2 l2.length c2] w fun e w' => ∃ v0_ : Value, e = .returned (v0_) ∧ Kd.R (Kd.int .i64) 3 w' w.heap.size (fun _ => True) v0_ r ∧ Below w.heap.size w w' := by
  have HR0 := Aside0.mk hr0
  have HC0 := Aside0.mk hc0
  clear hr0 hc0
  have HR1 := Aside0.mk hr1
  have HC1 := Aside0.mk hc1
  clear hr1 hc1
  have HR2 := Aside0.mk hr2
  have HC2 := Aside0.mk hc2
  clear hr2 hc2
  have HB := Aside0.mk (Below.refl w.heap.size w)
  have H : ((some (([] : List Int) : List Int)).bind fun y257 => (if y257.length + l0.length < 17592186044416 then (spec_l8After.l0 k l1 l2 (y257 ++ l0) 0) else (none))) = some r := h
  clear h
  obtain ⟨y257, hy257⟩ : ∃ y_ : List Int, y_ = (([] : List Int)) := ⟨_, rfl⟩
  replace H : (if y257.length + l0.length < 17592186044416 then (spec_l8After.l0 k l1 l2 (y257 ++ l0) 0) else (none)) = some r := by first | (rw [hy257]; with_reducible exact H) | (have H2_ := (Option.bind_some _ _).symm.trans H; rw [hy257]; with_reducible exact H2_) | (have H2_ := (Option.bind_some _ _).symm.trans H; with_reducible exact H2_) | with_reducible exact H | (rw [hy257]; exact H) | exact H
  have Ny257 := Aside0.mk hy257
  clear hy257
  by_cases c4 : y257.length + l0.length < 17592186044416
  · rw [if_pos c4] at H
    have LMc4 := Aside0.mk c4
    clear c4
    obtain ⟨y260, hy260⟩ : ∃ y_ : List Int, y_ = (y257 ++ l0) := ⟨_, rfl⟩
    replace H : (spec_l8After.l0 k l1 l2 y260 0) = some r := by first | (rw [hy260]; with_reducible exact H) | (have H2_ := (Option.bind_some _ _).symm.trans H; rw [hy260]; with_reducible exact H2_) | (have H2_ := (Option.bind_some _ _).symm.trans H; with_reducible exact H2_) | with_reducible exact H | (rw [hy260]; exact H) | exact H
    have Ny260 := Aside0.mk hy260
    clear hy260
    have H' := Aside0.mk H
    clear H
    go_enter Try.func52, Try.ntmps52
    go_wp2_with (first | ((with_reducible refine gate_dst (N := 9) rfl ?_); refine Kd.R_lit (Kd.int .i64) _ 3 ?hg (N := 9) ?hd (xs := ([] : List Int)) (inner := []) (ok := fun _ => True) (okp := fun _ => True) ?hr ?hp (fun _ hk => hk) trivial (Below.refl _ _) (Nat.le_refl _) (by simp) ?_; (case hd => rfl); (case hg => rfl); (case hr => first | (go_simp; done) | (go_simp; rfl)); (case hp => exact (Reps.none _ _)); intro v258 w5 ho6 hb hg_ hnew_; clear hg_ hnew_; (first | rw [← Ny257.out] at ho6 | (simp only [Int.reduceToNat] at ho6; rw [← Ny257.out] at ho6)); have n0_ := Aside0.mk (Kd.R_lower ho6 (below_size (by repeat (first | (with_reducible first | exact HB.out | apply below_alloc | apply pw_below_drewN | apply below_drew1) | exact HB.out)))); have n1_ := Aside0.mk (below_step (by repeat (first | (with_reducible first | exact HB.out | apply below_alloc | apply pw_below_drewN | apply below_drew1) | exact HB.out)) hb); clear HB; have HO259 := n0_; have HB := n1_; clear n0_ n1_; clear hb ho6) | ((with_reducible refine gate_builtin (b := .append) (xs := #[.tmp 9, .tmp 10]) rfl ?_); at_builtin; refine Kd.R_append_rows (Kd.int .i64) (w0 := w) w.heap.size rfl (.tmp 9) (.tmp 10) 22 3 (.int .i64 0) 8 rfl Try.underlying22 info3 rfl (by decide) (by omega) v258 y257 l0 _ _ _ (fun _ => True) (fun _ => False) rfl rfl ?aO ?aR (fun _ _ h => h) (fun _ h => h.elim) ?aF ?aB ?aS ?aL ?_; (case aR => repeat (first | exact (Kd.C_below HR0.out HB.out) | (with_reducible refine Kd.C_alloc ?_ _) | (with_reducible refine Kd.C_drewN ?_ _) | (with_reducible refine Kd.C_drew ?_))); (case aB => exact (by repeat (first | (with_reducible first | exact HB.out | apply below_alloc | apply pw_below_drewN | apply below_drew1) | exact HB.out))); (case aF => exact (fun _ _ => trivial)); (case aO => exact (by (with_reducible repeat (first | apply Kd.R_alloc | apply Kd.R_drewN | apply Kd.R_drew)); exact HO259.out)); (case aS => exact (below_size (by repeat (first | (with_reducible first | exact HB.out | apply below_alloc | apply pw_below_drewN | apply below_drew1) | exact HB.out)))); (case aL => have := LMc4.out; omega); intro v261 w7 ho hb hg hat; rw [← Ny260.out] at ho; have n0_ := Aside0.mk (hb); have n1_ := Aside0.mk (ho); clear HB; clear HO259; have HB := n0_; have HO262 := n1_; clear n0_ n1_; clear ho hb hg hat))
    go_loopg [8] k (fun kq v8 w' => ∃ (x7_1 : List Int) (x8_1 : Int), v8 = .int .i64 x8_1 ∧ Aside0 (spec_l8After.l0 kq l1 l2 x7_1 x8_1 = some r) ∧ Aside0 (kq ≤ k) ∧ Aside0 (Kd.R (Kd.int .i64) 3 w' w.heap.size (fun _ => True) v261 x7_1) ∧ Aside0 (Below w.heap.size w w'))
    case atStart => exact ⟨(y260), (0), (by first | rfl | (simp; done) | (simp [*]; done)), H', ⟨Nat.le_refl _⟩, ⟨by (with_reducible repeat (first | apply Kd.R_alloc | apply Kd.R_drewN | apply Kd.R_drew)); exact HO262.out⟩, ⟨by repeat (first | (with_reducible first | exact HB.out | apply below_alloc | apply pw_below_drewN | apply below_drew1) | exact HB.out)⟩⟩
    case round =>
      clear H'
      try clear c1
      try clear c2
      try clear p2
      try clear c4
      try clear c5
      obtain ⟨x7_1, x8_1, rfl, HA, HK1, HO_7, HB⟩ := hrel
      cases gk with
      | zero => exact absurd HA.out (by simp [spec_l8After.l0])
      | succ k1 =>
        have H := HA.out
        clear HA
        simp only [spec_l8After.l0] at H
        by_cases c8 : x8_1 < (l1.length : Int)
        · rw [if_pos c8] at H
          have c8b0 : decide (x8_1 < (l1.length : Int)) = true := decide_eq_true c8
          clear c8
          by_cases c9 : 0 ≤ x8_1
          · rw [if_pos c9] at H
            have c9b0 : decide (0 ≤ x8_1) = true := decide_eq_true c9
            clear c9
            by_cases c10 : x8_1 < (l2.length : Int)
            · rw [if_pos c10] at H
              have c10b0 : decide (x8_1 < (l2.length : Int)) = true := decide_eq_true c10
              clear c10
              by_cases c11 : (rd l2 x8_1) = 1
              · rw [if_pos c11] at H
                have c11b0 : ((rd l2 x8_1) == 1) = true := beq_iff_eq.mpr c11
                have c11b1 : ((rd l2 x8_1) != 1) = false := bne_eq_false_iff_eq.mpr c11
                clear c11
                by_cases c12 : 0 ≤ ((rd_T47 l1 x8_1).f0)
                · rw [if_pos c12] at H
                  have c12b0 : decide (0 ≤ ((rd_T47 l1 x8_1).f0)) = true := decide_eq_true c12
                  clear c12
                  by_cases c13 : ((rd_T47 l1 x8_1).f0) < (x7_1.length : Int)
                  · rw [if_pos c13] at H
                    have c13b0 : decide (((rd_T47 l1 x8_1).f0) < (x7_1.length : Int)) = true := decide_eq_true c13
                    clear c13
                    obtain ⟨y268, hy268⟩ : ∃ y_ : List Int, y_ = (x7_1.set (((rd_T47 l1 x8_1).f0) : Int).toNat (wrap64 ((rd x7_1 ((rd_T47 l1 x8_1).f0)) - ((rd_T47 l1 x8_1).f2)))) := ⟨_, rfl⟩
                    replace H : (if 0 ≤ ((rd_T47 l1 x8_1).f1) then (if ((rd_T47 l1 x8_1).f1) < (x7_1.length : Int) then (spec_l8After.l0 k1 l1 l2 (y268.set (((rd_T47 l1 x8_1).f1) : Int).toNat (wrap64 ((rd y268 ((rd_T47 l1 x8_1).f1)) + ((rd_T47 l1 x8_1).f2)))) (wrap64 (x8_1 + 1))) else (none)) else (none)) = some r := by first | (rw [hy268]; with_reducible exact H) | (have H2_ := (Option.bind_some _ _).symm.trans H; rw [hy268]; with_reducible exact H2_) | (have H2_ := (Option.bind_some _ _).symm.trans H; with_reducible exact H2_) | with_reducible exact H | (rw [hy268]; exact H) | exact H
                    have Ny268 := Aside0.mk hy268
                    clear hy268
                    by_cases c15 : 0 ≤ ((rd_T47 l1 x8_1).f1)
                    · rw [if_pos c15] at H
                      have c15b0 : decide (0 ≤ ((rd_T47 l1 x8_1).f1)) = true := decide_eq_true c15
                      clear c15
                      by_cases c16 : ((rd_T47 l1 x8_1).f1) < (x7_1.length : Int)
                      · rw [if_pos c16] at H
                        have c16b0 : decide (((rd_T47 l1 x8_1).f1) < (x7_1.length : Int)) = true := decide_eq_true c16
                        clear c16
                        obtain ⟨y273, hy273⟩ : ∃ y_ : List Int, y_ = (y268.set (((rd_T47 l1 x8_1).f1) : Int).toNat (wrap64 ((rd y268 ((rd_T47 l1 x8_1).f1)) + ((rd_T47 l1 x8_1).f2)))) := ⟨_, rfl⟩
                        replace H : (spec_l8After.l0 k1 l1 l2 y273 (wrap64 (x8_1 + 1))) = some r := by first | (rw [hy273]; with_reducible exact H) | (have H2_ := (Option.bind_some _ _).symm.trans H; rw [hy273]; with_reducible exact H2_) | (have H2_ := (Option.bind_some _ _).symm.trans H; with_reducible exact H2_) | with_reducible exact H | (rw [hy273]; exact H) | exact H
                        have Ny273 := Aside0.mk hy273
                        clear hy273
                        have H' := Aside0.mk H
                        clear H
                        have p263 : 0 ≤ (x8_1 : Int) := of_decide_eq_true (by first | (with_reducible assumption) | assumption)
                        have q263 : x8_1 < (l2.length : Int) := of_decide_eq_true (by first | (with_reducible assumption) | assumption)
                        obtain ⟨ad263, e263, hx263_0⟩ := Kd.at_int HR2.out x8_1 p263 q263
                        cases e263
                        replace hx263_0 := (HB.out.cell (World.block_lt_of_cell? w _ hx263_0)).trans hx263_0
                        replace p263 := eq_true p263
                        replace q263 := eq_true q263
                        try go_wp2
                        have n0_ := Aside0.mk (Kd.R_drew HO_7.out)
                        have n1_ := Aside0.mk (below_drew1 HB.out)
                        clear HO_7
                        clear HB
                        have HO_7 := n0_
                        have HB := n1_
                        clear n0_ n1_
                        have p264 : 0 ≤ (x8_1 : Int) := of_decide_eq_true (by first | (with_reducible assumption) | assumption)
                        have q264 : x8_1 < (l1.length : Int) := of_decide_eq_true (by first | (with_reducible assumption) | assumption)
                        obtain ⟨ad264, e264, hx264_0, hx264_1, hx264_2⟩ := at_T47 HR1.out x8_1 p264 q264
                        have hw264_2 := hx264_2
                        have hw264_1 := hx264_1
                        have hw264_0 := hx264_0
                        cases e264
                        replace hx264_0 := (HB.out.cell (World.block_lt_of_cell? w _ hx264_0)).trans hx264_0
                        replace hx264_1 := (HB.out.cell (World.block_lt_of_cell? w _ hx264_1)).trans hx264_1
                        replace hx264_2 := (HB.out.cell (World.block_lt_of_cell? w _ hx264_2)).trans hx264_2
                        replace p264 := eq_true p264
                        replace q264 := eq_true q264
                        have p265 : 0 ≤ (x8_1 : Int) := of_decide_eq_true (by first | (with_reducible assumption) | assumption)
                        have q265 : x8_1 < (l1.length : Int) := of_decide_eq_true (by first | (with_reducible assumption) | assumption)
                        obtain ⟨ad265, e265, hx265_0, hx265_1, hx265_2⟩ := at_T47 HR1.out x8_1 p265 q265
                        have hw265_2 := hx265_2
                        have hw265_1 := hx265_1
                        have hw265_0 := hx265_0
                        obtain rfl : ad264 = ad265 := (by injection e265)
                        replace hx265_0 := (HB.out.cell (World.block_lt_of_cell? w _ hx265_0)).trans hx265_0
                        replace hx265_1 := (HB.out.cell (World.block_lt_of_cell? w _ hx265_1)).trans hx265_1
                        replace hx265_2 := (HB.out.cell (World.block_lt_of_cell? w _ hx265_2)).trans hx265_2
                        replace p265 := eq_true p265
                        replace q265 := eq_true q265
                        obtain ⟨Ao19, co19, eo19⟩ := Kd.R_slice HO_7.out
                        (first | subst eo19 | (injection eo19 with f1_ f2_ f3_; have f4_ := f1_.symm; have f5_ := f3_.symm; clear f1_ f2_ f3_; subst f4_; subst f5_))
                        have p266 : 0 ≤ (((rd_T47 l1 x8_1).f0) : Int) := of_decide_eq_true (by first | (with_reducible assumption) | assumption)
                        have q266 : ((rd_T47 l1 x8_1).f0) < (x7_1.length : Int) := of_decide_eq_true (by first | (with_reducible assumption) | assumption)
                        obtain ⟨ad266, e266, hx266_0⟩ := Kd.at_int (Kd.R_reads' HO_7.out).2.2 ((rd_T47 l1 x8_1).f0) p266 q266
                        cases e266
                        replace p266 := eq_true p266
                        replace q266 := eq_true q266
                        have p267 : 0 ≤ (x8_1 : Int) := of_decide_eq_true (by first | (with_reducible assumption) | assumption)
                        have q267 : x8_1 < (l1.length : Int) := of_decide_eq_true (by first | (with_reducible assumption) | assumption)
                        obtain ⟨ad267, e267, hx267_0, hx267_1, hx267_2⟩ := at_T47 HR1.out x8_1 p267 q267
                        have hw267_2 := hx267_2
                        have hw267_1 := hx267_1
                        have hw267_0 := hx267_0
                        obtain rfl : ad264 = ad267 := (by injection e267)
                        replace hx267_0 := (HB.out.cell (World.block_lt_of_cell? w _ hx267_0)).trans hx267_0
                        replace hx267_1 := (HB.out.cell (World.block_lt_of_cell? w _ hx267_1)).trans hx267_1
                        replace hx267_2 := (HB.out.cell (World.block_lt_of_cell? w _ hx267_2)).trans hx267_2
                        replace p267 := eq_true p267
                        replace q267 := eq_true q267
                        have p14 : 0 ≤ (((rd_T47 l1 x8_1).f0) : Int) := of_decide_eq_true (by first | (with_reducible assumption) | assumption)
                        have q14 : (((rd_T47 l1 x8_1).f0) : Int) < ((x7_1.length : Int) : Int) := of_decide_eq_true (by first | (with_reducible assumption) | assumption)
                        obtain ⟨go14, co14, eo14, gb14, gl14, cl14, HG14⟩ := Kd.R_form HO_7.out (by omega)
                        (first | cases eo14 | (injection eo14 with ea_ en_ ec_; (first | subst ea_ | (injection ea_ with ea_; subst ea_)); subst ec_; clear en_))
                        have GB14 := Aside0.mk gb14
                        have GG14 := Aside0.mk HG14
                        clear gb14 gl14 HG14
                        (first | simp only [add_plain] at hx266_0 | skip)
                        obtain ⟨hx14_0, hf14_0⟩ := Kd.R_celln 0 HO_7.out (((rd_T47 l1 x8_1).f0) : Int) p14 q14
                        replace p14 := eq_true p14
                        replace q14 := eq_true q14
                        have HP20 := Kd.R_putn HO_7.out (((rd_T47 l1 x8_1).f0) : Int) (wrap64 ((rd x7_1 ((rd_T47 l1 x8_1).f0)) - ((rd_T47 l1 x8_1).f2)))
                        rw [← Ny268.out] at HP20
                        have HQ20 := Aside0.mk HP20
                        clear HP20
                        refine start_ (n := 22) (S := fun w' => w'.cell? (ad264.add ((x8_1).toNat * 3)) = some (.int .i64 ((rd_T47 l1 x8_1).f0)) ∧ w'.cell? ⟨(ad264.add ((x8_1).toNat * 3)).block, (ad264.add ((x8_1).toNat * 3)).off + 1, none⟩ = some (.int .i64 ((rd_T47 l1 x8_1).f1)) ∧ w'.cell? ⟨(ad264.add ((x8_1).toNat * 3)).block, (ad264.add ((x8_1).toNat * 3)).off + 2, none⟩ = some (.int .i64 ((rd_T47 l1 x8_1).f2)) ∧ w'.cell? (ad264.add ((x8_1).toNat * 3)) = some (.int .i64 ((rd_T47 l1 x8_1).f0)) ∧ w'.cell? ⟨(ad264.add ((x8_1).toNat * 3)).block, (ad264.add ((x8_1).toNat * 3)).off + 1, none⟩ = some (.int .i64 ((rd_T47 l1 x8_1).f1)) ∧ w'.cell? ⟨(ad264.add ((x8_1).toNat * 3)).block, (ad264.add ((x8_1).toNat * 3)).off + 2, none⟩ = some (.int .i64 ((rd_T47 l1 x8_1).f2)) ∧ w'.cell? ⟨go14, (((rd_T47 l1 x8_1).f0)).toNat, none⟩ = some (.int .i64 (rd x7_1 ((rd_T47 l1 x8_1).f0))) ∧ w'.cell? (ad264.add ((x8_1).toNat * 3)) = some (.int .i64 ((rd_T47 l1 x8_1).f0)) ∧ w'.cell? ⟨(ad264.add ((x8_1).toNat * 3)).block, (ad264.add ((x8_1).toNat * 3)).off + 1, none⟩ = some (.int .i64 ((rd_T47 l1 x8_1).f1)) ∧ w'.cell? ⟨(ad264.add ((x8_1).toNat * 3)).block, (ad264.add ((x8_1).toNat * 3)).off + 2, none⟩ = some (.int .i64 ((rd_T47 l1 x8_1).f2))) (ds := [21]) #[false, false, false, false, false, false, false, false, false, false, false, false, false, false, false, false, false, false, false, false, false, false] (by kernel_rfl) rfl rfl ⟨((HB.out.cell (World.block_lt_of_cell? w _ hw264_0)).trans hw264_0), ((HB.out.cell (World.block_lt_of_cell? w _ hw264_1)).trans hw264_1), ((HB.out.cell (World.block_lt_of_cell? w _ hw264_2)).trans hw264_2), ((HB.out.cell (World.block_lt_of_cell? w _ hw265_0)).trans hw265_0), ((HB.out.cell (World.block_lt_of_cell? w _ hw265_1)).trans hw265_1), ((HB.out.cell (World.block_lt_of_cell? w _ hw265_2)).trans hw265_2), hx266_0, ((HB.out.cell (World.block_lt_of_cell? w _ hw267_0)).trans hw267_0), ((HB.out.cell (World.block_lt_of_cell? w _ hw267_1)).trans hw267_1), ((HB.out.cell (World.block_lt_of_cell? w _ hw267_2)).trans hw267_2)⟩ (fun hHeld => ?_); refine with_tabW spec_l8After.tab6 spec_l8After.bits6 (fun HT_ HW_ => ?_)
                        generalize wr.drew = w18 at HO_7 HB GG14 HQ20 hf14_0 hx14_0 hx264_0 hx264_1 hx264_2 hx265_0 hx265_1 hx265_2 hx266_0 hx267_0 hx267_1 hx267_2 hHeld ⊢
                        refine pure_ (i := 0) (N := some 23) (v := ?_) (a' := ?_) #[true, false, false, false, false, false, false, false, false, false, false, false, false, false, false, false, false, false, false, false, false, false] rfl rfl (any_of HT_.out (by kernel_rfl)) (fun _ _ _ h => h) (Or.inl ⟨by rfl, ?_⟩) ?_ ?_
                        rotate_left
                        · intro w'
                          go_simp
                          with_reducible rfl
                        rotate_left
                        · simp only [Act.put, List.setIfInBounds_toArray, List.set_cons_zero, List.set_cons_succ, i64_w, i32_w]
                          rfl
                        refine pure_ (i := 1) (N := some 24) (v := ?_) (a' := ?_) #[true, true, false, false, false, false, false, false, false, false, false, false, false, false, false, false, false, false, false, false, false, false] rfl rfl (any_of HT_.out (by kernel_rfl)) (fun _ _ _ h => h) (Or.inl ⟨by rfl, ?_⟩) ?_ ?_
                        rotate_left
                        · intro w'
                          go_simp
                          with_reducible rfl
                        rotate_left
                        · simp only [Act.put, List.setIfInBounds_toArray, List.set_cons_zero, List.set_cons_succ, i64_w, i32_w]
                          rfl
                        refine pure_ (i := 2) (N := some 25) (v := ?_) (a' := ?_) #[true, true, true, false, false, false, false, false, false, false, false, false, false, false, false, false, false, false, false, false, false, false] rfl rfl (any_of HT_.out (by kernel_rfl)) (fun _ _ _ h => h) (Or.inl ⟨by rfl, ?_⟩) ?_ ?_
                        rotate_left
                        · intro w'
                          go_simp
                          with_reducible rfl
                        rotate_left
                        · simp only [Act.put, List.setIfInBounds_toArray, List.set_cons_zero, List.set_cons_succ, i64_w, i32_w]
                          rfl
                        refine pure_ (i := 3) (N := some 26) (v := ?_) (a' := ?_) #[true, true, true, true, false, false, false, false, false, false, false, false, false, false, false, false, false, false, false, false, false, false] rfl rfl (any_of HT_.out (by kernel_rfl)) (fun _ _ _ h => h) (Or.inl ⟨by rfl, ?_⟩) ?_ ?_
                        rotate_left
                        · intro w'
                          go_simp
                          with_reducible rfl
                        rotate_left
                        · simp only [Act.put, List.setIfInBounds_toArray, List.set_cons_zero, List.set_cons_succ, i64_w, i32_w]
                          rfl
                        refine pure_ (i := 4) (N := some 27) (v := ?_) (a' := ?_) #[true, true, true, true, true, false, false, false, false, false, false, false, false, false, false, false, false, false, false, false, false, false] rfl rfl (any_of HT_.out (by kernel_rfl)) (fun _ _ _ h => h) (Or.inl ⟨by rfl, ?_⟩) ?_ ?_
                        rotate_left
                        · intro w'
                          go_simp
                          with_reducible rfl
                        rotate_left
                        · simp only [Act.put, List.setIfInBounds_toArray, List.set_cons_zero, List.set_cons_succ, i64_w, i32_w]
                          rfl
                        refine pure_ (i := 6) (N := some 29) (v := ?_) (a' := ?_) #[true, true, true, true, true, false, true, false, false, false, false, false, false, false, false, false, false, false, false, false, false, false] rfl rfl (any_of HT_.out (by kernel_rfl)) (fun _ _ _ h => h) (Or.inl ⟨by rfl, ?_⟩) ?_ ?_
                        rotate_left
                        · intro w'
                          go_simp
                          with_reducible rfl
                        rotate_left
                        · simp only [Act.put, List.setIfInBounds_toArray, List.set_cons_zero, List.set_cons_succ, i64_w, i32_w]
                          rfl
                        refine pure_ (i := 7) (N := some 30) (v := ?_) (a' := ?_) #[true, true, true, true, true, false, true, true, false, false, false, false, false, false, false, false, false, false, false, false, false, false] rfl rfl (any_of HT_.out (by kernel_rfl)) (fun _ _ _ h => h) (Or.inl ⟨by rfl, ?_⟩) ?_ ?_
                        rotate_left
                        · intro w'
                          go_simp
                          with_reducible rfl
                        rotate_left
                        · simp only [Act.put, List.setIfInBounds_toArray, List.set_cons_zero, List.set_cons_succ, i64_w, i32_w]
                          rfl
                        refine pure_ (i := 8) (N := some 31) (v := ?_) (a' := ?_) #[true, true, true, true, true, false, true, true, true, false, false, false, false, false, false, false, false, false, false, false, false, false] rfl rfl (any_of HT_.out (by kernel_rfl)) (fun _ _ _ h => h) (Or.inl ⟨by rfl, ?_⟩) ?_ ?_
                        rotate_left
                        · intro w'
                          go_simp
                          with_reducible rfl
                        rotate_left
                        · simp only [Act.put, List.setIfInBounds_toArray, List.set_cons_zero, List.set_cons_succ, i64_w, i32_w]
                          rfl
                        refine pure_ (i := 9) (N := some 32) (v := ?_) (a' := ?_) #[true, true, true, true, true, false, true, true, true, true, false, false, false, false, false, false, false, false, false, false, false, false] rfl rfl (any_of HT_.out (by kernel_rfl)) (fun _ _ _ h => h) (Or.inl ⟨by rfl, ?_⟩) ?_ ?_
                        rotate_left
                        · intro w'
                          go_simp
                          with_reducible rfl
                        rotate_left
                        · simp only [Act.put, List.setIfInBounds_toArray, List.set_cons_zero, List.set_cons_succ, i64_w, i32_w]
                          rfl
                        refine pure_ (i := 10) (N := some 33) (v := ?_) (a' := ?_) #[true, true, true, true, true, false, true, true, true, true, true, false, false, false, false, false, false, false, false, false, false, false] rfl rfl (any_of HT_.out (by kernel_rfl)) (fun _ _ _ h => h) (Or.inl ⟨by rfl, ?_⟩) ?_ ?_
                        rotate_left
                        · intro w'
                          go_simp
                          with_reducible rfl
                        rotate_left
                        · simp only [Act.put, List.setIfInBounds_toArray, List.set_cons_zero, List.set_cons_succ, i64_w, i32_w]
                          rfl
                        refine pure_ (i := 14) (N := some 37) (v := ?_) (a' := ?_) #[true, true, true, true, true, false, true, true, true, true, true, false, false, false, true, false, false, false, false, false, false, false] rfl rfl (any_of HT_.out (by kernel_rfl)) (fun _ _ _ h => h) (Or.inl ⟨by rfl, ?_⟩) ?_ ?_
                        rotate_left
                        · intro w'
                          go_simp
                          with_reducible rfl
                        rotate_left
                        · simp only [Act.put, List.setIfInBounds_toArray, List.set_cons_zero, List.set_cons_succ, i64_w, i32_w]
                          rfl
                        refine pure_ (i := 15) (N := some 38) (v := ?_) (a' := ?_) #[true, true, true, true, true, false, true, true, true, true, true, false, false, false, true, true, false, false, false, false, false, false] rfl rfl (any_of HT_.out (by kernel_rfl)) (fun _ _ _ h => h) (Or.inl ⟨by rfl, ?_⟩) ?_ ?_
                        rotate_left
                        · intro w'
                          go_simp
                          with_reducible rfl
                        rotate_left
                        · simp only [Act.put, List.setIfInBounds_toArray, List.set_cons_zero, List.set_cons_succ, i64_w, i32_w]
                          rfl
                        refine pure_ (i := 16) (N := some 39) (v := ?_) (a' := ?_) #[true, true, true, true, true, false, true, true, true, true, true, false, false, false, true, true, true, false, false, false, false, false] rfl rfl (any_of HT_.out (by kernel_rfl)) (fun _ _ _ h => h) (Or.inl ⟨by rfl, ?_⟩) ?_ ?_
                        rotate_left
                        · intro w'
                          go_simp
                          with_reducible rfl
                        rotate_left
                        · simp only [Act.put, List.setIfInBounds_toArray, List.set_cons_zero, List.set_cons_succ, i64_w, i32_w]
                          rfl
                        refine pure_ (i := 17) (N := some 40) (v := ?_) (a' := ?_) #[true, true, true, true, true, false, true, true, true, true, true, false, false, false, true, true, true, true, false, false, false, false] rfl rfl (any_of HT_.out (by kernel_rfl)) (fun _ _ _ h => h) (Or.inl ⟨by rfl, ?_⟩) ?_ ?_
                        rotate_left
                        · intro w'
                          go_simp
                          with_reducible rfl
                        rotate_left
                        · simp only [Act.put, List.setIfInBounds_toArray, List.set_cons_zero, List.set_cons_succ, i64_w, i32_w]
                          rfl
                        refine take_ (i := 5) (N := some 28) (v := ?_) (a' := ?_) #[true, true, true, true, true, true, true, true, true, true, true, false, false, false, true, true, true, true, false, false, false, false] rfl rfl (take_ofW HT_.out HW_.out (by kernel_rfl)) (fun _ _ _ h => h) (Or.inl ⟨by rfl, ?_⟩) hHeld ?_ ?_
                        rotate_left
                        · rintro w' ⟨s0, s1, s2, s3, s4, s5, s6, s7, s8, s9⟩
                          go_simp
                          with_reducible rfl
                        rotate_left
                        · simp only [Act.put, List.setIfInBounds_toArray, List.set_cons_zero, List.set_cons_succ, i64_w, i32_w]
                          rfl
                        refine take_ (i := 11) (N := some 34) (v := ?_) (a' := ?_) #[true, true, true, true, true, true, true, true, true, true, true, true, false, false, true, true, true, true, false, false, false, false] rfl rfl (take_ofW HT_.out HW_.out (by kernel_rfl)) (fun _ _ _ h => h) (Or.inl ⟨by rfl, ?_⟩) hHeld ?_ ?_
                        rotate_left
                        · rintro w' ⟨s0, s1, s2, s3, s4, s5, s6, s7, s8, s9⟩
                          go_simp
                          with_reducible rfl
                        rotate_left
                        · simp only [Act.put, List.setIfInBounds_toArray, List.set_cons_zero, List.set_cons_succ, i64_w, i32_w]
                          rfl
                        refine pure_ (i := 12) (N := some 35) (v := ?_) (a' := ?_) #[true, true, true, true, true, true, true, true, true, true, true, true, true, false, true, true, true, true, false, false, false, false] rfl rfl (any_of HT_.out (by kernel_rfl)) (fun _ _ _ h => h) (Or.inl ⟨by rfl, ?_⟩) ?_ ?_
                        rotate_left
                        · intro w'
                          go_simp
                          with_reducible rfl
                        rotate_left
                        · simp only [Act.put, List.setIfInBounds_toArray, List.set_cons_zero, List.set_cons_succ, i64_w, i32_w]
                          rfl
                        refine take_ (i := 13) (N := some 36) (v := ?_) (a' := ?_) #[true, true, true, true, true, true, true, true, true, true, true, true, true, true, true, true, true, true, false, false, false, false] rfl rfl (take_ofW HT_.out HW_.out (by kernel_rfl)) (fun _ _ _ h => h) (Or.inl ⟨by rfl, ?_⟩) hHeld ?_ ?_
                        rotate_left
                        · rintro w' ⟨s0, s1, s2, s3, s4, s5, s6, s7, s8, s9⟩
                          go_simp
                          with_reducible rfl
                        rotate_left
                        · simp only [Act.put, List.setIfInBounds_toArray, List.set_cons_zero, List.set_cons_succ, i64_w, i32_w]
                          rfl
                        refine take_ (i := 18) (N := some 41) (v := ?_) (a' := ?_) #[true, true, true, true, true, true, true, true, true, true, true, true, true, true, true, true, true, true, true, false, false, false] rfl rfl (take_ofW HT_.out HW_.out (by kernel_rfl)) (fun _ _ _ h => h) (Or.inl ⟨by rfl, ?_⟩) hHeld ?_ ?_
                        rotate_left
                        · rintro w' ⟨s0, s1, s2, s3, s4, s5, s6, s7, s8, s9⟩
                          go_simp
                          with_reducible rfl
                        rotate_left
                        · simp only [Act.put, List.setIfInBounds_toArray, List.set_cons_zero, List.set_cons_succ, i64_w, i32_w]
                          rfl
                        refine pure_ (i := 19) (N := some 42) (v := ?_) (a' := ?_) #[true, true, true, true, true, true, true, true, true, true, true, true, true, true, true, true, true, true, true, true, false, false] rfl rfl (any_of HT_.out (by kernel_rfl)) (fun _ _ _ h => h) (Or.inl ⟨by rfl, ?_⟩) ?_ ?_
                        rotate_left
                        · intro w'
                          go_simp
                          with_reducible rfl
                        rotate_left
                        · simp only [Act.put, List.setIfInBounds_toArray, List.set_cons_zero, List.set_cons_succ, i64_w, i32_w]
                          rfl
                        refine pure_ (i := 20) (N := some 43) (v := ?_) (a' := ?_) #[true, true, true, true, true, true, true, true, true, true, true, true, true, true, true, true, true, true, true, true, true, false] rfl rfl (any_of HT_.out (by kernel_rfl)) (fun _ _ _ h => h) (Or.inl ⟨by rfl, ?_⟩) ?_ ?_
                        rotate_left
                        · intro w'
                          go_simp
                          with_reducible rfl
                        rotate_left
                        · simp only [Act.put, List.setIfInBounds_toArray, List.set_cons_zero, List.set_cons_succ, i64_w, i32_w]
                          rfl
                        refine last_ (i := 21) (N := none) #[true, true, true, true, true, true, true, true, true, true, true, true, true, true, true, true, true, true, true, true, true, true] rfl rfl (one_of HT_.out (by kernel_rfl)) (by decide) (fun K hK => ?_)
                        refine skip_ (w1 := ?_) (by rfl) rfl ?_ ?_
                        rotate_left
                        · go_simp
                          rfl
                        refine hK.out _ _ ?_
                        clear hK K
                        refine done_ (done_of HT_.out (by kernel_rfl)) ?_
                        try go_wp2
                        have n0_ : Aside0 (Kd.R (Kd.int .i64) 3 (w18.setCell ⟨go14, (((rd_T47 l1 x8_1).f0) : Int).toNat, none⟩ (.int .i64 (wrap64 ((rd x7_1 ((rd_T47 l1 x8_1).f0)) - ((rd_T47 l1 x8_1).f2))))) w.heap.size (fun _ => True) (.slice (some ⟨go14, 0, none⟩) x7_1.length co19) y268) := ⟨by (with_reducible repeat (first | apply Kd.R_alloc | apply Kd.R_drewN | apply Kd.R_drew)); exact HQ20.out⟩
                        have n1_ : Aside0 (Below w.heap.size w (w18.setCell ⟨go14, (((rd_T47 l1 x8_1).f0) : Int).toNat, none⟩ (.int .i64 (wrap64 ((rd x7_1 ((rd_T47 l1 x8_1).f0)) - ((rd_T47 l1 x8_1).f2)))))) := ⟨by repeat (first | (with_reducible first | exact HB.out | apply below_alloc | apply pw_below_drewN | apply below_drew1 | refine below_set ?_ GB14.out) | exact HB.out)⟩
                        (try clear HO_7)
                        (try clear HB)
                        generalize (w18.setCell ⟨go14, (((rd_T47 l1 x8_1).f0) : Int).toNat, none⟩ (.int .i64 (wrap64 ((rd x7_1 ((rd_T47 l1 x8_1).f0)) - ((rd_T47 l1 x8_1).f2))))) = w21 at n0_ n1_ ⊢
                        have HO_7 := n0_
                        have HB := n1_
                        clear n0_ n1_
                        have n0_ := Aside0.mk (Kd.R_drew HO_7.out)
                        have n1_ := Aside0.mk (below_drew1 HB.out)
                        clear HO_7
                        clear HB
                        have HO_7 := n0_
                        have HB := n1_
                        clear n0_ n1_
                        have p269 : 0 ≤ (x8_1 : Int) := of_decide_eq_true (by first | (with_reducible assumption) | assumption)
                        have q269 : x8_1 < (l1.length : Int) := of_decide_eq_true (by first | (with_reducible assumption) | assumption)
                        obtain ⟨ad269, e269, hx269_0, hx269_1, hx269_2⟩ := at_T47 HR1.out x8_1 p269 q269
                        have hw269_2 := hx269_2
                        have hw269_1 := hx269_1
                        have hw269_0 := hx269_0
                        obtain rfl : ad264 = ad269 := (by injection e269)
                        replace hx269_0 := (HB.out.cell (World.block_lt_of_cell? w _ hx269_0)).trans hx269_0
                        replace hx269_1 := (HB.out.cell (World.block_lt_of_cell? w _ hx269_1)).trans hx269_1
                        replace hx269_2 := (HB.out.cell (World.block_lt_of_cell? w _ hx269_2)).trans hx269_2
                        replace p269 := eq_true p269
                        replace q269 := eq_true q269
                        have p270 : 0 ≤ (x8_1 : Int) := of_decide_eq_true (by first | (with_reducible assumption) | assumption)
                        have q270 : x8_1 < (l1.length : Int) := of_decide_eq_true (by first | (with_reducible assumption) | assumption)
                        obtain ⟨ad270, e270, hx270_0, hx270_1, hx270_2⟩ := at_T47 HR1.out x8_1 p270 q270
                        have hw270_2 := hx270_2
                        have hw270_1 := hx270_1
                        have hw270_0 := hx270_0
                        obtain rfl : ad264 = ad270 := (by injection e270)
                        replace hx270_0 := (HB.out.cell (World.block_lt_of_cell? w _ hx270_0)).trans hx270_0
                        replace hx270_1 := (HB.out.cell (World.block_lt_of_cell? w _ hx270_1)).trans hx270_1
                        replace hx270_2 := (HB.out.cell (World.block_lt_of_cell? w _ hx270_2)).trans hx270_2
                        replace p270 := eq_true p270
                        replace q270 := eq_true q270
                        have p271 : 0 ≤ (((rd_T47 l1 x8_1).f1) : Int) := of_decide_eq_true (by first | (with_reducible assumption) | assumption)
                        have q271 : ((rd_T47 l1 x8_1).f1) < (y268.length : Int) := (by have h_ : (((rd_T47 l1 x8_1).f1) : Int) < ((x7_1.length : Int) : Int) := of_decide_eq_true (by first | (with_reducible assumption) | assumption); first | (have e_ := (Kd.R_reads' HO_7.out).1; omega) | simpa only [Ny268.out, List.length_set] using h_)
                        have ql271 : ((((rd_T47 l1 x8_1).f1) : Int) < ((x7_1.length : Int) : Int)) = True := eq_true (of_decide_eq_true (by first | (with_reducible assumption) | assumption))
                        obtain ⟨ad271, e271, hx271_0⟩ := Kd.at_int (Kd.R_reads' HO_7.out).2.2 ((rd_T47 l1 x8_1).f1) p271 q271
                        obtain rfl : (⟨go14, 0, none⟩ : Addr) = ad271 := (by injection e271)
                        (first | simp only [add_plain] at hx271_0 | simp only [add_at] at hx271_0 | simp only [Addr.add, Nat.zero_add] at hx271_0 | skip)
                        replace p271 := eq_true p271
                        replace q271 := eq_true q271
                        have p272 : 0 ≤ (x8_1 : Int) := of_decide_eq_true (by first | (with_reducible assumption) | assumption)
                        have q272 : x8_1 < (l1.length : Int) := of_decide_eq_true (by first | (with_reducible assumption) | assumption)
                        obtain ⟨ad272, e272, hx272_0, hx272_1, hx272_2⟩ := at_T47 HR1.out x8_1 p272 q272
                        have hw272_2 := hx272_2
                        have hw272_1 := hx272_1
                        have hw272_0 := hx272_0
                        obtain rfl : ad264 = ad272 := (by injection e272)
                        replace hx272_0 := (HB.out.cell (World.block_lt_of_cell? w _ hx272_0)).trans hx272_0
                        replace hx272_1 := (HB.out.cell (World.block_lt_of_cell? w _ hx272_1)).trans hx272_1
                        replace hx272_2 := (HB.out.cell (World.block_lt_of_cell? w _ hx272_2)).trans hx272_2
                        replace p272 := eq_true p272
                        replace q272 := eq_true q272
                        have p17 : 0 ≤ (((rd_T47 l1 x8_1).f1) : Int) := of_decide_eq_true (by first | (with_reducible assumption) | assumption)
                        have q17 : (((rd_T47 l1 x8_1).f1) : Int) < ((x7_1.length : Int) : Int) := of_decide_eq_true (by first | (with_reducible assumption) | assumption)
                        obtain ⟨hx17_0, hf17_0⟩ := Kd.R_celln 0 HO_7.out (((rd_T47 l1 x8_1).f1) : Int) p17 q17
                        replace p17 := eq_true p17
                        replace q17 := eq_true q17
                        have HP23 := Kd.R_putn HO_7.out (((rd_T47 l1 x8_1).f1) : Int) (wrap64 ((rd y268 ((rd_T47 l1 x8_1).f1)) + ((rd_T47 l1 x8_1).f2)))
                        rw [← Ny273.out] at HP23
                        have HQ23 := Aside0.mk HP23
                        clear HP23
                        refine start_ (n := 22) (S := fun w' => w'.cell? (ad264.add ((x8_1).toNat * 3)) = some (.int .i64 ((rd_T47 l1 x8_1).f0)) ∧ w'.cell? ⟨(ad264.add ((x8_1).toNat * 3)).block, (ad264.add ((x8_1).toNat * 3)).off + 1, none⟩ = some (.int .i64 ((rd_T47 l1 x8_1).f1)) ∧ w'.cell? ⟨(ad264.add ((x8_1).toNat * 3)).block, (ad264.add ((x8_1).toNat * 3)).off + 2, none⟩ = some (.int .i64 ((rd_T47 l1 x8_1).f2)) ∧ w'.cell? (ad264.add ((x8_1).toNat * 3)) = some (.int .i64 ((rd_T47 l1 x8_1).f0)) ∧ w'.cell? ⟨(ad264.add ((x8_1).toNat * 3)).block, (ad264.add ((x8_1).toNat * 3)).off + 1, none⟩ = some (.int .i64 ((rd_T47 l1 x8_1).f1)) ∧ w'.cell? ⟨(ad264.add ((x8_1).toNat * 3)).block, (ad264.add ((x8_1).toNat * 3)).off + 2, none⟩ = some (.int .i64 ((rd_T47 l1 x8_1).f2)) ∧ w'.cell? ⟨go14, (((rd_T47 l1 x8_1).f1)).toNat, none⟩ = some (.int .i64 (rd y268 ((rd_T47 l1 x8_1).f1))) ∧ w'.cell? (ad264.add ((x8_1).toNat * 3)) = some (.int .i64 ((rd_T47 l1 x8_1).f0)) ∧ w'.cell? ⟨(ad264.add ((x8_1).toNat * 3)).block, (ad264.add ((x8_1).toNat * 3)).off + 1, none⟩ = some (.int .i64 ((rd_T47 l1 x8_1).f1)) ∧ w'.cell? ⟨(ad264.add ((x8_1).toNat * 3)).block, (ad264.add ((x8_1).toNat * 3)).off + 2, none⟩ = some (.int .i64 ((rd_T47 l1 x8_1).f2))) (ds := [21]) #[false, false, false, false, false, false, false, false, false, false, false, false, false, false, false, false, false, false, false, false, false, false] (by kernel_rfl) rfl rfl ⟨((HB.out.cell (World.block_lt_of_cell? w _ hw269_0)).trans hw269_0), ((HB.out.cell (World.block_lt_of_cell? w _ hw269_1)).trans hw269_1), ((HB.out.cell (World.block_lt_of_cell? w _ hw269_2)).trans hw269_2), ((HB.out.cell (World.block_lt_of_cell? w _ hw270_0)).trans hw270_0), ((HB.out.cell (World.block_lt_of_cell? w _ hw270_1)).trans hw270_1), ((HB.out.cell (World.block_lt_of_cell? w _ hw270_2)).trans hw270_2), hx271_0, ((HB.out.cell (World.block_lt_of_cell? w _ hw272_0)).trans hw272_0), ((HB.out.cell (World.block_lt_of_cell? w _ hw272_1)).trans hw272_1), ((HB.out.cell (World.block_lt_of_cell? w _ hw272_2)).trans hw272_2)⟩ (fun hHeld => ?_); refine with_tabW spec_l8After.tab7 spec_l8After.bits7 (fun HT_ HW_ => ?_)
                        generalize w21.drew = w22 at HO_7 HB HQ20 HQ23 hf17_0 hx17_0 hx269_0 hx269_1 hx269_2 hx270_0 hx270_1 hx270_2 hx271_0 hx272_0 hx272_1 hx272_2 hHeld ⊢
                        refine pure_ (i := 0) (N := some 44) (v := ?_) (a' := ?_) #[true, false, false, false, false, false, false, false, false, false, false, false, false, false, false, false, false, false, false, false, false, false] rfl rfl (any_of HT_.out (by kernel_rfl)) (fun _ _ _ h => h) (Or.inl ⟨by rfl, ?_⟩) ?_ ?_
                        rotate_left
                        · intro w'
                          go_simp
                          with_reducible rfl
                        rotate_left
                        · simp only [Act.put, List.setIfInBounds_toArray, List.set_cons_zero, List.set_cons_succ, i64_w, i32_w]
                          rfl
                        refine pure_ (i := 1) (N := some 45) (v := ?_) (a' := ?_) #[true, true, false, false, false, false, false, false, false, false, false, false, false, false, false, false, false, false, false, false, false, false] rfl rfl (any_of HT_.out (by kernel_rfl)) (fun _ _ _ h => h) (Or.inl ⟨by rfl, ?_⟩) ?_ ?_
                        rotate_left
                        · intro w'
                          go_simp
                          with_reducible rfl
                        rotate_left
                        · simp only [Act.put, List.setIfInBounds_toArray, List.set_cons_zero, List.set_cons_succ, i64_w, i32_w]
                          rfl
                        refine pure_ (i := 2) (N := some 46) (v := ?_) (a' := ?_) #[true, true, true, false, false, false, false, false, false, false, false, false, false, false, false, false, false, false, false, false, false, false] rfl rfl (any_of HT_.out (by kernel_rfl)) (fun _ _ _ h => h) (Or.inl ⟨by rfl, ?_⟩) ?_ ?_
                        rotate_left
                        · intro w'
                          go_simp
                          with_reducible rfl
                        rotate_left
                        · simp only [Act.put, List.setIfInBounds_toArray, List.set_cons_zero, List.set_cons_succ, i64_w, i32_w]
                          rfl
                        refine pure_ (i := 3) (N := some 47) (v := ?_) (a' := ?_) #[true, true, true, true, false, false, false, false, false, false, false, false, false, false, false, false, false, false, false, false, false, false] rfl rfl (any_of HT_.out (by kernel_rfl)) (fun _ _ _ h => h) (Or.inl ⟨by rfl, ?_⟩) ?_ ?_
                        rotate_left
                        · intro w'
                          go_simp
                          with_reducible rfl
                        rotate_left
                        · simp only [Act.put, List.setIfInBounds_toArray, List.set_cons_zero, List.set_cons_succ, i64_w, i32_w]
                          rfl
                        refine pure_ (i := 4) (N := some 48) (v := ?_) (a' := ?_) #[true, true, true, true, true, false, false, false, false, false, false, false, false, false, false, false, false, false, false, false, false, false] rfl rfl (any_of HT_.out (by kernel_rfl)) (fun _ _ _ h => h) (Or.inl ⟨by rfl, ?_⟩) ?_ ?_
                        rotate_left
                        · intro w'
                          go_simp
                          with_reducible rfl
                        rotate_left
                        · simp only [Act.put, List.setIfInBounds_toArray, List.set_cons_zero, List.set_cons_succ, i64_w, i32_w]
                          rfl
                        refine pure_ (i := 6) (N := some 50) (v := ?_) (a' := ?_) #[true, true, true, true, true, false, true, false, false, false, false, false, false, false, false, false, false, false, false, false, false, false] rfl rfl (any_of HT_.out (by kernel_rfl)) (fun _ _ _ h => h) (Or.inl ⟨by rfl, ?_⟩) ?_ ?_
                        rotate_left
                        · intro w'
                          go_simp
                          with_reducible rfl
                        rotate_left
                        · simp only [Act.put, List.setIfInBounds_toArray, List.set_cons_zero, List.set_cons_succ, i64_w, i32_w]
                          rfl
                        refine pure_ (i := 7) (N := some 51) (v := ?_) (a' := ?_) #[true, true, true, true, true, false, true, true, false, false, false, false, false, false, false, false, false, false, false, false, false, false] rfl rfl (any_of HT_.out (by kernel_rfl)) (fun _ _ _ h => h) (Or.inl ⟨by rfl, ?_⟩) ?_ ?_
                        rotate_left
                        · intro w'
                          go_simp
                          with_reducible rfl
                        rotate_left
                        · simp only [Act.put, List.setIfInBounds_toArray, List.set_cons_zero, List.set_cons_succ, i64_w, i32_w]
                          rfl
                        refine pure_ (i := 8) (N := some 52) (v := ?_) (a' := ?_) #[true, true, true, true, true, false, true, true, true, false, false, false, false, false, false, false, false, false, false, false, false, false] rfl rfl (any_of HT_.out (by kernel_rfl)) (fun _ _ _ h => h) (Or.inl ⟨by rfl, ?_⟩) ?_ ?_
                        rotate_left
                        · intro w'
                          go_simp
                          with_reducible rfl
                        rotate_left
                        · simp only [Act.put, List.setIfInBounds_toArray, List.set_cons_zero, List.set_cons_succ, i64_w, i32_w]
                          rfl
                        refine pure_ (i := 9) (N := some 53) (v := ?_) (a' := ?_) #[true, true, true, true, true, false, true, true, true, true, false, false, false, false, false, false, false, false, false, false, false, false] rfl rfl (any_of HT_.out (by kernel_rfl)) (fun _ _ _ h => h) (Or.inl ⟨by rfl, ?_⟩) ?_ ?_
                        rotate_left
                        · intro w'
                          go_simp
                          with_reducible rfl
                        rotate_left
                        · simp only [Act.put, List.setIfInBounds_toArray, List.set_cons_zero, List.set_cons_succ, i64_w, i32_w]
                          rfl
                        refine pure_ (i := 10) (N := some 54) (v := ?_) (a' := ?_) #[true, true, true, true, true, false, true, true, true, true, true, false, false, false, false, false, false, false, false, false, false, false] rfl rfl (any_of HT_.out (by kernel_rfl)) (fun _ _ _ h => h) (Or.inl ⟨by rfl, ?_⟩) ?_ ?_
                        rotate_left
                        · intro w'
                          go_simp
                          with_reducible rfl
                        rotate_left
                        · simp only [Act.put, List.setIfInBounds_toArray, List.set_cons_zero, List.set_cons_succ, i64_w, i32_w]
                          rfl
                        refine pure_ (i := 14) (N := some 58) (v := ?_) (a' := ?_) #[true, true, true, true, true, false, true, true, true, true, true, false, false, false, true, false, false, false, false, false, false, false] rfl rfl (any_of HT_.out (by kernel_rfl)) (fun _ _ _ h => h) (Or.inl ⟨by rfl, ?_⟩) ?_ ?_
                        rotate_left
                        · intro w'
                          go_simp
                          with_reducible rfl
                        rotate_left
                        · simp only [Act.put, List.setIfInBounds_toArray, List.set_cons_zero, List.set_cons_succ, i64_w, i32_w]
                          rfl
                        refine pure_ (i := 15) (N := some 59) (v := ?_) (a' := ?_) #[true, true, true, true, true, false, true, true, true, true, true, false, false, false, true, true, false, false, false, false, false, false] rfl rfl (any_of HT_.out (by kernel_rfl)) (fun _ _ _ h => h) (Or.inl ⟨by rfl, ?_⟩) ?_ ?_
                        rotate_left
                        · intro w'
                          go_simp
                          with_reducible rfl
                        rotate_left
                        · simp only [Act.put, List.setIfInBounds_toArray, List.set_cons_zero, List.set_cons_succ, i64_w, i32_w]
                          rfl
                        refine pure_ (i := 16) (N := some 60) (v := ?_) (a' := ?_) #[true, true, true, true, true, false, true, true, true, true, true, false, false, false, true, true, true, false, false, false, false, false] rfl rfl (any_of HT_.out (by kernel_rfl)) (fun _ _ _ h => h) (Or.inl ⟨by rfl, ?_⟩) ?_ ?_
                        rotate_left
                        · intro w'
                          go_simp
                          with_reducible rfl
                        rotate_left
                        · simp only [Act.put, List.setIfInBounds_toArray, List.set_cons_zero, List.set_cons_succ, i64_w, i32_w]
                          rfl
                        refine pure_ (i := 17) (N := some 61) (v := ?_) (a' := ?_) #[true, true, true, true, true, false, true, true, true, true, true, false, false, false, true, true, true, true, false, false, false, false] rfl rfl (any_of HT_.out (by kernel_rfl)) (fun _ _ _ h => h) (Or.inl ⟨by rfl, ?_⟩) ?_ ?_
                        rotate_left
                        · intro w'
                          go_simp
                          with_reducible rfl
                        rotate_left
                        · simp only [Act.put, List.setIfInBounds_toArray, List.set_cons_zero, List.set_cons_succ, i64_w, i32_w]
                          rfl
                        refine take_ (i := 5) (N := some 49) (v := ?_) (a' := ?_) #[true, true, true, true, true, true, true, true, true, true, true, false, false, false, true, true, true, true, false, false, false, false] rfl rfl (take_ofW HT_.out HW_.out (by kernel_rfl)) (fun _ _ _ h => h) (Or.inl ⟨by rfl, ?_⟩) hHeld ?_ ?_
                        rotate_left
                        · rintro w' ⟨s0, s1, s2, s3, s4, s5, s6, s7, s8, s9⟩
                          go_simp
                          with_reducible rfl
                        rotate_left
                        · simp only [Act.put, List.setIfInBounds_toArray, List.set_cons_zero, List.set_cons_succ, i64_w, i32_w]
                          rfl
                        refine take_ (i := 11) (N := some 55) (v := ?_) (a' := ?_) #[true, true, true, true, true, true, true, true, true, true, true, true, false, false, true, true, true, true, false, false, false, false] rfl rfl (take_ofW HT_.out HW_.out (by kernel_rfl)) (fun _ _ _ h => h) (Or.inl ⟨by rfl, ?_⟩) hHeld ?_ ?_
                        rotate_left
                        · rintro w' ⟨s0, s1, s2, s3, s4, s5, s6, s7, s8, s9⟩
                          go_simp
                          with_reducible rfl
                        rotate_left
                        · simp only [Act.put, List.setIfInBounds_toArray, List.set_cons_zero, List.set_cons_succ, i64_w, i32_w]
                          rfl
                        refine pure_ (i := 12) (N := some 56) (v := ?_) (a' := ?_) #[true, true, true, true, true, true, true, true, true, true, true, true, true, false, true, true, true, true, false, false, false, false] rfl rfl (any_of HT_.out (by kernel_rfl)) (fun _ _ _ h => h) (Or.inl ⟨by rfl, ?_⟩) ?_ ?_
                        rotate_left
                        · intro w'
                          go_simp
                          with_reducible rfl
                        rotate_left
                        · simp only [Act.put, List.setIfInBounds_toArray, List.set_cons_zero, List.set_cons_succ, i64_w, i32_w]
                          rfl
                        refine take_ (i := 13) (N := some 57) (v := ?_) (a' := ?_) #[true, true, true, true, true, true, true, true, true, true, true, true, true, true, true, true, true, true, false, false, false, false] rfl rfl (take_ofW HT_.out HW_.out (by kernel_rfl)) (fun _ _ _ h => h) (Or.inl ⟨by rfl, ?_⟩) hHeld ?_ ?_
                        rotate_left
                        · rintro w' ⟨s0, s1, s2, s3, s4, s5, s6, s7, s8, s9⟩
                          go_simp
                          with_reducible rfl
                        rotate_left
                        · simp only [Act.put, List.setIfInBounds_toArray, List.set_cons_zero, List.set_cons_succ, i64_w, i32_w]
                          rfl
                        refine take_ (i := 18) (N := some 62) (v := ?_) (a' := ?_) #[true, true, true, true, true, true, true, true, true, true, true, true, true, true, true, true, true, true, true, false, false, false] rfl rfl (take_ofW HT_.out HW_.out (by kernel_rfl)) (fun _ _ _ h => h) (Or.inl ⟨by rfl, ?_⟩) hHeld ?_ ?_
                        rotate_left
                        · rintro w' ⟨s0, s1, s2, s3, s4, s5, s6, s7, s8, s9⟩
                          go_simp
                          with_reducible rfl
                        rotate_left
                        · simp only [Act.put, List.setIfInBounds_toArray, List.set_cons_zero, List.set_cons_succ, i64_w, i32_w]
                          rfl
                        refine pure_ (i := 19) (N := some 63) (v := ?_) (a' := ?_) #[true, true, true, true, true, true, true, true, true, true, true, true, true, true, true, true, true, true, true, true, false, false] rfl rfl (any_of HT_.out (by kernel_rfl)) (fun _ _ _ h => h) (Or.inl ⟨by rfl, ?_⟩) ?_ ?_
                        rotate_left
                        · intro w'
                          go_simp
                          with_reducible rfl
                        rotate_left
                        · simp only [Act.put, List.setIfInBounds_toArray, List.set_cons_zero, List.set_cons_succ, i64_w, i32_w]
                          rfl
                        refine pure_ (i := 20) (N := some 64) (v := ?_) (a' := ?_) #[true, true, true, true, true, true, true, true, true, true, true, true, true, true, true, true, true, true, true, true, true, false] rfl rfl (any_of HT_.out (by kernel_rfl)) (fun _ _ _ h => h) (Or.inl ⟨by rfl, ?_⟩) ?_ ?_
                        rotate_left
                        · intro w'
                          go_simp
                          with_reducible rfl
                        rotate_left
                        · simp only [Act.put, List.setIfInBounds_toArray, List.set_cons_zero, List.set_cons_succ, i64_w, i32_w]
                          rfl
                        refine last_ (i := 21) (N := none) #[true, true, true, true, true, true, true, true, true, true, true, true, true, true, true, true, true, true, true, true, true, true] rfl rfl (one_of HT_.out (by kernel_rfl)) (by decide) (fun K hK => ?_)
                        refine skip_ (w1 := ?_) (by rfl) rfl ?_ ?_
                        rotate_left
                        · go_simp
                          rfl
                        refine hK.out _ _ ?_
                        clear hK K
                        refine done_ (done_of HT_.out (by kernel_rfl)) ?_
                        try go_wp2
                        go_roundg k1
                        case measure => have := HK1.out; omega
                        case rel => exact ⟨(y273), (wrap64 (x8_1 + 1)), (by first | rfl | (simp; done) | (simp [*]; done)), H', ⟨by have := HK1.out; omega⟩, ⟨by (with_reducible repeat (first | apply Kd.R_alloc | apply Kd.R_drewN | apply Kd.R_drew)); exact HQ23.out⟩, ⟨by repeat (first | (with_reducible first | exact HB.out | apply below_alloc | apply pw_below_drewN | apply below_drew1 | refine below_set ?_ GB14.out) | exact HB.out)⟩⟩
                      · rw [if_neg c16] at H
                        exact absurd H (by simp)
                    · rw [if_neg c15] at H
                      exact absurd H (by simp)
                  · rw [if_neg c13] at H
                    exact absurd H (by simp)
                · rw [if_neg c12] at H
                  exact absurd H (by simp)
              · rw [if_neg c11] at H
                have c11b0 : ((rd l2 x8_1) == 1) = false := beq_eq_false_iff_ne.mpr c11
                have c11b1 : ((rd l2 x8_1) != 1) = true := bne_iff_ne.mpr c11
                have H' := Aside0.mk H
                clear H
                have p263 : 0 ≤ (x8_1 : Int) := of_decide_eq_true (by first | (with_reducible assumption) | assumption)
                have q263 : x8_1 < (l2.length : Int) := of_decide_eq_true (by first | (with_reducible assumption) | assumption)
                obtain ⟨ad263, e263, hx263_0⟩ := Kd.at_int HR2.out x8_1 p263 q263
                cases e263
                replace hx263_0 := (HB.out.cell (World.block_lt_of_cell? w _ hx263_0)).trans hx263_0
                replace p263 := eq_true p263
                replace q263 := eq_true q263
                go_wp2
                go_roundg k1
                case measure => have := HK1.out; omega
                case rel => exact ⟨(x7_1), (wrap64 (x8_1 + 1)), (by first | rfl | (simp; done) | (simp [*]; done)), H', ⟨by have := HK1.out; omega⟩, ⟨by (with_reducible repeat (first | apply Kd.R_alloc | apply Kd.R_drewN | apply Kd.R_drew)); exact HO_7.out⟩, ⟨by repeat (first | (with_reducible first | exact HB.out | apply below_alloc | apply pw_below_drewN | apply below_drew1) | exact HB.out)⟩⟩
            · rw [if_neg c10] at H
              exact absurd H (by simp)
          · rw [if_neg c9] at H
            exact absurd H (by simp)
        · rw [if_neg c8] at H
          have c8b0 : decide (x8_1 < (l1.length : Int)) = false := decide_eq_false c8
          clear c8
          obtain rfl := Option.some.inj H
          go_wp2
          go_ret
          exact ⟨_, by first | rfl | (simp [errW_none, errW_some] <;> rfl) | (simp [*, errW_none, errW_some] <;> rfl), by (with_reducible repeat (first | apply Kd.R_alloc | apply Kd.R_drewN | apply Kd.R_drew)); exact HO_7.out, by repeat (first | (with_reducible first | exact HB.out | apply below_alloc | apply pw_below_drewN | apply below_drew1) | exact HB.out)⟩
  · rw [if_neg c4] at H
    exact absurd H (by simp)
end Go.Proofs.Ytbnkiikpolcpkaa.PU

namespace Go.Proofs.Ytbnkiikpolcpkaa.PU
open Go.RowKit Go.Proofs.YtbnkiikpolcpkaaW.PrintWords Go.Proofs.YtbnkiikpolcpkaaW.PrintLast Go.Proofs.YtbnkiikpolcpkaaW.PrintMore
attribute [local go_sem] max2_int min2_int max_two min_two max_three min_three max_four min_four   -- for this text's walks alone
set_option linter.unusedVariables false
set_option linter.unusedSimpArgs false
def IndexFunc_isLot1.idx (p : Int → Bool) : List Int → Nat → Int
  | [], _ => -1
  | x :: r, i => if p x = true then (i : Int) else IndexFunc_isLot1.idx p r (i + 1)
def IndexFunc_isLot1.f (l0 : List Int) : Option (Int) := some (IndexFunc_isLot1.idx (fun x => (x != 0 && x != 1)) l0 0)
end Go.Proofs.Ytbnkiikpolcpkaa.PU

namespace Go.Proofs.Ytbnkiikpolcpkaa.PU
open Go.RowKit Go.Proofs.YtbnkiikpolcpkaaW.PrintWords Go.Proofs.YtbnkiikpolcpkaaW.PrintLast Go.Proofs.YtbnkiikpolcpkaaW.PrintMore
attribute [local go_sem] max2_int min2_int max_two min_two max_three min_three max_four min_four   -- for this text's walks alone
set_option linter.unusedVariables false
set_option linter.unusedSimpArgs false
def ContainsFunc_isLot1.f (l0 : List Int) : Option (Bool) := (IndexFunc_isLot1.f l0).bind fun t => some (decide (t ≥ 0))
end Go.Proofs.Ytbnkiikpolcpkaa.PU

namespace Go.Proofs.Ytbnkiikpolcpkaa.PU
open Go.RowKit Go.Proofs.YtbnkiikpolcpkaaW.PrintWords Go.Proofs.YtbnkiikpolcpkaaW.PrintLast Go.Proofs.YtbnkiikpolcpkaaW.PrintMore
attribute [local go_sem] max2_int min2_int max_two min_two max_three min_three max_four min_four   -- for this text's walks alone
set_option linter.unusedVariables false
set_option linter.unusedSimpArgs false
def impl_isLot.f (l0 : List (S47)) (l1 : List Int) : Option (Bool) := if (l1.length : Int) = (l0.length : Int) then ((ContainsFunc_isLot1.f l1).bind fun t285 => (some (!t285))) else (some false)
end Go.Proofs.Ytbnkiikpolcpkaa.PU

namespace Go.Proofs.Ytbnkiikpolcpkaa.PU
open Go.RowKit Go.Proofs.YtbnkiikpolcpkaaW.PrintWords Go.Proofs.YtbnkiikpolcpkaaW.PrintLast Go.Proofs.YtbnkiikpolcpkaaW.PrintMore
attribute [local go_sem] max2_int min2_int max_two min_two max_three min_three max_four min_four   -- for this text's walks alone
set_option linter.unusedVariables false
set_option linter.unusedSimpArgs false
def slices_Min_int_int.l0 : Nat → List Int → Int → Int → Option (Int)
  | 0, _, _, _ => none
  | k + 1, x0, x3, x4 => if x4 < (x0.length : Int) then (if 0 ≤ x4 then (slices_Min_int_int.l0 k x0 (mn x3 (rd x0 x4)) (wrap64 (x4 + 1))) else (none)) else (some x3)
def slices_Min_int_int.f (k : Nat) (l0 : List Int) : Option (Int) := if (l0.length : Int) < 1 then (none) else (if 0 < (l0.length : Int) then (slices_Min_int_int.l0 k l0 (rd l0 0) 1) else (none))
end Go.Proofs.Ytbnkiikpolcpkaa.PU

namespace Go.Proofs.Ytbnkiikpolcpkaa.PU
open Go.RowKit Go.Proofs.YtbnkiikpolcpkaaW.PrintWords Go.Proofs.YtbnkiikpolcpkaaW.PrintLast Go.Proofs.YtbnkiikpolcpkaaW.PrintMore
attribute [local go_sem] max2_int min2_int max_two min_two max_three min_three max_four min_four   -- for this text's walks alone
set_option linter.unusedVariables false
set_option linter.unusedSimpArgs false
def impl_isFirst.l0 : Nat → List (S47) → List Int → Int → List (S47) → Int → Int → Option (Bool)
  | 0, _, _, _, _, _, _ => none
  | k + 1, x0, x1, x2, x11, x12, x13 => if x13 < x12 then (if 0 ≤ x13 then (if x13 < (x11.length : Int) then (if 0 ≤ x2 then (if x2 < (x0.length : Int) then (if ((rd_T47 x11 x13).f0) = ((rd_T47 x0 x2).f0) then (if x13 < (x1.length : Int) then (if (rd x1 x13) = 0 then (some false) else (impl_isFirst.l0 k x0 x1 x2 x11 x12 (wrap64 (x13 + 1)))) else (none)) else (impl_isFirst.l0 k x0 x1 x2 x11 x12 (wrap64 (x13 + 1)))) else (none)) else (none)) else (none)) else (none)) else (some true)
def impl_isFirst.f (k : Nat) (l0 : List (S47)) (l1 : List Int) (a2 : Int) : Option (Bool) := if 0 ≤ a2 then (if a2 ≤ (l0.length : Int) then ((some (l0.take (a2 : Int).toNat : List (S47))).bind fun y434 => (impl_isFirst.l0 k l0 l1 a2 y434 (y434.length : Int) 0)) else (none)) else (none)
theorem impl_isFirst.mono_l : ∀ k, (∀ y0 y1 y2 y3 y4 y5, LeO (impl_isFirst.l0 k y0 y1 y2 y3 y4 y5) (impl_isFirst.l0 (k + 1) y0 y1 y2 y3 y4 y5))
  | 0 => fun _ _ _ _ _ _ r h => by simp [impl_isFirst.l0] at h
  | k + 1 => by
    have ih0 := impl_isFirst.mono_l k
    · intro y0 y1 y2 y3 y4 y5
      unfold impl_isFirst.l0
      repeat' first
      | (with_reducible exact ih0 _ _ _ _ _ _)
      | (with_reducible exact LeO.refl _)
      | (with_reducible exact LeO.none _)
      | (with_reducible refine LeO.ite ?_ ?_)
      | (with_reducible refine LeO.bind ?_ (fun _ => ?_))
      | exact ih0 _ _ _ _ _ _
      | exact LeO.none _
      | refine LeO.ite ?_ ?_
      | refine LeO.bind ?_ (fun _ => ?_)
theorem impl_isFirst.mono : ∀ a0 a1 a2 k, LeO (impl_isFirst.f k a0 a1 a2) (impl_isFirst.f (k + 1) a0 a1 a2) := by
  intro a0 a1 a2 k
  have ih0 := impl_isFirst.mono_l k
  unfold impl_isFirst.f
  repeat' first
      | (with_reducible exact ih0 _ _ _ _ _ _)
      | (with_reducible exact LeO.refl _)
      | (with_reducible exact LeO.none _)
      | (with_reducible refine LeO.ite ?_ ?_)
      | (with_reducible refine LeO.bind ?_ (fun _ => ?_))
      | exact ih0 _ _ _ _ _ _
      | exact LeO.none _
      | refine LeO.ite ?_ ?_
      | refine LeO.bind ?_ (fun _ => ?_)
set_option maxHeartbeats 8000000 in
set_option maxRecDepth 100000 in
theorem impl_isFirst.calls (k : Nat) (A0 : Option Addr) (c0 : Nat) (l0 : List (S47)) (A1 : Option Addr) (c1 : Nat) (l1 : List Int) (a2 : Int) (r : Bool) (w : World) (hr0 : Kd.C k47 w A0 l0.length l0) (hc0 : l0.length ≤ c0) (hr1 : Kd.C (Kd.int .i64) w A1 l1.length l1) (hc1 : l1.length ≤ c1) (h : impl_isFirst.f k l0 l1 a2 = some r) :
    Calls Try.prog 58 #[.slice A0 l0.length c0, .slice A1 l1.length c1, .int .i64 a2] w fun e w' => e = .returned (.bool r) ∧ Below w.heap.size w w' := by
  have hu47 := Try.underlying47
  have HR0 := Aside0.mk hr0
  have HC0 := Aside0.mk hc0
  clear hr0 hc0
  have HR1 := Aside0.mk hr1
  have HC1 := Aside0.mk hc1
  clear hr1 hc1
  have HB := Aside0.mk (Below.refl w.heap.size w)
  have H : (if 0 ≤ a2 then (if a2 ≤ (l0.length : Int) then ((some (l0.take (a2 : Int).toNat : List (S47))).bind fun y434 => (impl_isFirst.l0 k l0 l1 a2 y434 (y434.length : Int) 0)) else (none)) else (none)) = some r := h
  clear h
  by_cases c4 : 0 ≤ a2
  · rw [if_pos c4] at H
    have c4b0 := eq_true c4
    have c4b1 : decide (0 ≤ a2) = true := decide_eq_true c4
    clear c4
    by_cases c5 : a2 ≤ (l0.length : Int)
    · rw [if_pos c5] at H
      have c5b0 := eq_true c5
      have c5b1 : decide (a2 ≤ (l0.length : Int)) = true := decide_eq_true c5
      clear c5
      obtain ⟨y434, hy434⟩ : ∃ y_ : List (S47), y_ = (l0.take (a2 : Int).toNat) := ⟨_, rfl⟩
      replace H : (impl_isFirst.l0 k l0 l1 a2 y434 (y434.length : Int) 0) = some r := by first | (rw [hy434]; with_reducible exact H) | (have H2_ := (Option.bind_some _ _).symm.trans H; rw [hy434]; with_reducible exact H2_) | (have H2_ := (Option.bind_some _ _).symm.trans H; with_reducible exact H2_) | with_reducible exact H | (rw [hy434]; exact H) | exact H
      have Ny434 := Aside0.mk hy434
      clear hy434
      have H' := Aside0.mk H
      clear H
      have q6 : (a2 : Int) ≤ ((l0.length : Int) : Int) := of_decide_eq_true (by first | (with_reducible assumption) | assumption)
      obtain ⟨i06, hi06, _, hsz6, _⟩ := info_parts info47
      have hroom6 : l0.length ≤ c0 := HC0.out
      have hC6 : Kd.C k47 _ A0 l0.length l0 := HR0.out
      have hcut6 := cut_to (P := Try.prog) 27 47 .i64 Try.underlying27 hi06 A0 l0.length c0 a2 (of_decide_eq_true (by first | (with_reducible assumption) | assumption)) q6 hroom6
      have hr6 := Kd.C_take (m := (a2 : Int).toNat) hC6 (by omega)
      have hy6 : y434.length = (a2 : Int).toNat := (by rw [Ny434.out, List.length_take]; omega)
      rw [← Ny434.out] at hr6
      rw [← hy6] at hcut6
      have HR437 := Aside0.mk hr6
      have HC437 := Aside0.mk (show y434.length ≤ c0 from by omega)
      clear hr6 hC6 hroom6 hi06 hsz6
      have KY6 := Aside0.mk hy6
      clear hy6
      replace q6 := eq_true q6
      go_enter Try.func58, Try.ntmps58
      go_wp2
      repeat (go_quiet (fail); try go_wp2)
      go_loopg [13] k (fun kq v13 w' => ∃ (x13_1 : Int), v13 = .int .i64 x13_1 ∧ Aside0 (impl_isFirst.l0 kq l0 l1 a2 y434 (y434.length : Int) x13_1 = some r) ∧ Aside0 (kq ≤ k) ∧ Aside0 (Below w.heap.size w w'))
      case atStart => exact ⟨(0), (by first | rfl | (simp; done) | (simp [*]; done)), H', ⟨Nat.le_refl _⟩, ⟨by repeat (first | (with_reducible first | exact HB.out | apply below_alloc | apply pw_below_drewN | apply below_drew1) | exact HB.out)⟩⟩
      case round =>
        clear H'
        try clear c1
        try clear p2
        try clear c4
        try clear c4b0
        try clear c4b1
        try clear c5
        try clear c5b0
        try clear c5b1
        try clear q6
        try clear q6
        obtain ⟨x13_1, rfl, HA, HK1, HB⟩ := hrel
        cases gk with
        | zero => exact absurd HA.out (by simp [impl_isFirst.l0])
        | succ k1 =>
          have H := HA.out
          clear HA
          simp only [impl_isFirst.l0] at H
          by_cases c7 : x13_1 < (y434.length : Int)
          · rw [if_pos c7] at H
            have c7b0 : decide (x13_1 < (y434.length : Int)) = true := decide_eq_true c7
            clear c7
            by_cases c8 : 0 ≤ x13_1
            · rw [if_pos c8] at H
              have c8b0 : decide (0 ≤ x13_1) = true := decide_eq_true c8
              clear c8
              by_cases c9 : x13_1 < (y434.length : Int)
              · rw [if_pos c9] at H
                have c9b0 : decide (x13_1 < (y434.length : Int)) = true := decide_eq_true c9
                clear c9
                by_cases c10 : 0 ≤ a2
                · rw [if_pos c10] at H
                  have c10b0 : decide (0 ≤ a2) = true := decide_eq_true c10
                  clear c10
                  by_cases c11 : a2 < (l0.length : Int)
                  · rw [if_pos c11] at H
                    have c11b0 : decide (a2 < (l0.length : Int)) = true := decide_eq_true c11
                    clear c11
                    by_cases c12 : ((rd_T47 y434 x13_1).f0) = ((rd_T47 l0 a2).f0)
                    · rw [if_pos c12] at H
                      have c12b0 : (((rd_T47 y434 x13_1).f0) == ((rd_T47 l0 a2).f0)) = true := beq_iff_eq.mpr c12
                      have c12b1 : (((rd_T47 y434 x13_1).f0) != ((rd_T47 l0 a2).f0)) = false := bne_eq_false_iff_eq.mpr c12
                      clear c12
                      by_cases c13 : x13_1 < (l1.length : Int)
                      · rw [if_pos c13] at H
                        have c13b0 : decide (x13_1 < (l1.length : Int)) = true := decide_eq_true c13
                        clear c13
                        by_cases c14 : (rd l1 x13_1) = 0
                        · rw [if_pos c14] at H
                          have c14b0 : ((rd l1 x13_1) == 0) = true := beq_iff_eq.mpr c14
                          have c14b1 : ((rd l1 x13_1) != 0) = false := bne_eq_false_iff_eq.mpr c14
                          clear c14
                          obtain rfl := Option.some.inj H
                          have p438 : 0 ≤ (x13_1 : Int) := of_decide_eq_true (by first | (with_reducible assumption) | assumption)
                          have q438 : x13_1 < (y434.length : Int) := of_decide_eq_true (by first | (with_reducible assumption) | assumption)
                          obtain ⟨ad438, e438, hx438_0, hx438_1, hx438_2⟩ := at_T47 HR437.out x13_1 p438 q438
                          cases e438
                          replace hx438_0 := (HB.out.cell (World.block_lt_of_cell? w _ hx438_0)).trans hx438_0
                          replace hx438_1 := (HB.out.cell (World.block_lt_of_cell? w _ hx438_1)).trans hx438_1
                          replace hx438_2 := (HB.out.cell (World.block_lt_of_cell? w _ hx438_2)).trans hx438_2
                          replace p438 := eq_true p438
                          replace q438 := eq_true q438
                          go_wp2_with (first | ((with_reducible refine gate_dst (N := 8) rfl ?_); refine box_event ?hg (N := 8) ?hd (cs := #[.int .i64 0, .int .i64 0, .int .i64 0]) (t := 47) ?hr ?_; (case hd => rfl); (case hg => rfl); (case hr => first | (go_simp; done) | (go_simp; rfl)); intro gb439 hg w15 hbox hb; have n0_ := Aside0.mk (below_step (by repeat (first | (with_reducible first | exact HB.out | apply below_alloc | apply pw_below_drewN | apply below_drew1) | exact HB.out)) hb); have n1_ := Aside0.mk (hbox); have n2_ := Aside0.mk ((by rw [hg]; exact (below_size (by repeat (first | (with_reducible first | exact HB.out | apply below_alloc | apply pw_below_drewN | apply below_drew1) | exact HB.out))) : w.heap.size ≤ gb439)); have n3_ := Aside0.mk ((by rw [hg]; exact (below_size (by repeat (first | (with_reducible first | exact HB.out | apply below_alloc | apply pw_below_drewN | apply below_drew1) | exact HB.out))) : w.heap.size ≤ gb439)); clear HB; have HB := n0_; have BK439 := n1_; have GW439 := n2_; have GE439 := n3_; clear n0_ n1_ n2_ n3_; clear hb hbox hg; have hcz16_0 : w15.cell? ⟨gb439, 0, none⟩ = some (.int .i64 0) := (blk_cell BK439.out 0).trans rfl; have hcz16_1 : w15.cell? ⟨gb439, 1, none⟩ = some (.int .i64 0) := (blk_cell BK439.out 1).trans rfl; have hcz16_2 : w15.cell? ⟨gb439, 2, none⟩ = some (.int .i64 0) := (blk_cell BK439.out 2).trans rfl; have hfz16_0 := blk_frozen BK439.out 0; have hfz16_1 := blk_frozen BK439.out 1; have hfz16_2 := blk_frozen BK439.out 2; have p440 : 0 ≤ (a2 : Int) := of_decide_eq_true (by first | (with_reducible assumption) | assumption); have q440 : a2 < (l0.length : Int) := of_decide_eq_true (by first | (with_reducible assumption) | assumption); obtain ⟨ad440, e440, hx440_0, hx440_1, hx440_2⟩ := at_T47 HR0.out a2 p440 q440; obtain rfl : ad438 = ad440 := (by injection e440); have hn440_0 : ad438.block ≠ gb439 := Nat.ne_of_lt (Nat.lt_of_lt_of_le (by have := World.block_lt_of_cell? _ _ hx440_0; first | rwa [add_block] at this | exact this) GW439.out); have hn440_1 : ad438.block ≠ gb439 := Nat.ne_of_lt (Nat.lt_of_lt_of_le (by have := World.block_lt_of_cell? _ _ hx440_0; first | rwa [add_block] at this | exact this) GW439.out); have hn440_2 : ad438.block ≠ gb439 := Nat.ne_of_lt (Nat.lt_of_lt_of_le (by have := World.block_lt_of_cell? _ _ hx440_0; first | rwa [add_block] at this | exact this) GW439.out); replace hx440_0 := (HB.out.cell (World.block_lt_of_cell? w _ hx440_0)).trans hx440_0; replace hx440_1 := (HB.out.cell (World.block_lt_of_cell? w _ hx440_1)).trans hx440_1; replace hx440_2 := (HB.out.cell (World.block_lt_of_cell? w _ hx440_2)).trans hx440_2; replace hx440_0 := (cell_far (p := ⟨gb439, 0, none⟩) (by first | (rw [add_block]; exact hn440_0) | (show (Addr.add _ _).block ≠ _; rw [add_block]; exact hn440_0) | exact hn440_0) (.int .i64 ((rd_T47 y434 x13_1).f0))).trans hx440_0; replace hx440_1 := (cell_far (p := ⟨gb439, 0, none⟩) (by first | (rw [add_block]; exact hn440_0) | (show (Addr.add _ _).block ≠ _; rw [add_block]; exact hn440_0) | exact hn440_0) (.int .i64 ((rd_T47 y434 x13_1).f0))).trans hx440_1; replace hx440_2 := (cell_far (p := ⟨gb439, 0, none⟩) (by first | (rw [add_block]; exact hn440_0) | (show (Addr.add _ _).block ≠ _; rw [add_block]; exact hn440_0) | exact hn440_0) (.int .i64 ((rd_T47 y434 x13_1).f0))).trans hx440_2; replace hx440_0 := (cell_far (p := ⟨gb439, 1, none⟩) (by first | (rw [add_block]; exact hn440_1) | (show (Addr.add _ _).block ≠ _; rw [add_block]; exact hn440_1) | exact hn440_1) (.int .i64 ((rd_T47 y434 x13_1).f1))).trans hx440_0; replace hx440_1 := (cell_far (p := ⟨gb439, 1, none⟩) (by first | (rw [add_block]; exact hn440_1) | (show (Addr.add _ _).block ≠ _; rw [add_block]; exact hn440_1) | exact hn440_1) (.int .i64 ((rd_T47 y434 x13_1).f1))).trans hx440_1; replace hx440_2 := (cell_far (p := ⟨gb439, 1, none⟩) (by first | (rw [add_block]; exact hn440_1) | (show (Addr.add _ _).block ≠ _; rw [add_block]; exact hn440_1) | exact hn440_1) (.int .i64 ((rd_T47 y434 x13_1).f1))).trans hx440_2; replace hx440_0 := (cell_far (p := ⟨gb439, 2, none⟩) (by first | (rw [add_block]; exact hn440_2) | (show (Addr.add _ _).block ≠ _; rw [add_block]; exact hn440_2) | exact hn440_2) (.int .i64 ((rd_T47 y434 x13_1).f2))).trans hx440_0; replace hx440_1 := (cell_far (p := ⟨gb439, 2, none⟩) (by first | (rw [add_block]; exact hn440_2) | (show (Addr.add _ _).block ≠ _; rw [add_block]; exact hn440_2) | exact hn440_2) (.int .i64 ((rd_T47 y434 x13_1).f2))).trans hx440_1; replace hx440_2 := (cell_far (p := ⟨gb439, 2, none⟩) (by first | (rw [add_block]; exact hn440_2) | (show (Addr.add _ _).block ≠ _; rw [add_block]; exact hn440_2) | exact hn440_2) (.int .i64 ((rd_T47 y434 x13_1).f2))).trans hx440_2; (try have hy440_0 := fun (n_ : Nat) => (show (((((w15.drewN n_).setCell ⟨gb439, 0, none⟩ (.int .i64 ((rd_T47 y434 x13_1).f0))).setCell ⟨gb439, 1, none⟩ (.int .i64 ((rd_T47 y434 x13_1).f1))).setCell ⟨gb439, 2, none⟩ (.int .i64 ((rd_T47 y434 x13_1).f2)))).cell? _ = some _ from hx440_0)); (try have hy440_1 := fun (n_ : Nat) => (show (((((w15.drewN n_).setCell ⟨gb439, 0, none⟩ (.int .i64 ((rd_T47 y434 x13_1).f0))).setCell ⟨gb439, 1, none⟩ (.int .i64 ((rd_T47 y434 x13_1).f1))).setCell ⟨gb439, 2, none⟩ (.int .i64 ((rd_T47 y434 x13_1).f2)))).cell? _ = some _ from hx440_1)); (try have hy440_2 := fun (n_ : Nat) => (show (((((w15.drewN n_).setCell ⟨gb439, 0, none⟩ (.int .i64 ((rd_T47 y434 x13_1).f0))).setCell ⟨gb439, 1, none⟩ (.int .i64 ((rd_T47 y434 x13_1).f1))).setCell ⟨gb439, 2, none⟩ (.int .i64 ((rd_T47 y434 x13_1).f2)))).cell? _ = some _ from hx440_2)); clear hn440_0; clear hn440_1; clear hn440_2; replace p440 := eq_true p440; replace q440 := eq_true q440; have p441 : 0 ≤ (x13_1 : Int) := of_decide_eq_true (by first | (with_reducible assumption) | assumption); have q441 : x13_1 < (l1.length : Int) := of_decide_eq_true (by first | (with_reducible assumption) | assumption); obtain ⟨ad441, e441, hx441_0⟩ := Kd.at_int HR1.out x13_1 p441 q441; cases e441; have hn441_0 : ad441.block ≠ gb439 := Nat.ne_of_lt (Nat.lt_of_lt_of_le (by have := World.block_lt_of_cell? _ _ hx441_0; first | rwa [add_block] at this | exact this) GW439.out); have hn441_1 : ad441.block ≠ gb439 := Nat.ne_of_lt (Nat.lt_of_lt_of_le (by have := World.block_lt_of_cell? _ _ hx441_0; first | rwa [add_block] at this | exact this) GW439.out); have hn441_2 : ad441.block ≠ gb439 := Nat.ne_of_lt (Nat.lt_of_lt_of_le (by have := World.block_lt_of_cell? _ _ hx441_0; first | rwa [add_block] at this | exact this) GW439.out); replace hx441_0 := (HB.out.cell (World.block_lt_of_cell? w _ hx441_0)).trans hx441_0; replace hx441_0 := (cell_far (p := ⟨gb439, 0, none⟩) (by first | (rw [add_block]; exact hn441_0) | (show (Addr.add _ _).block ≠ _; rw [add_block]; exact hn441_0) | exact hn441_0) (.int .i64 ((rd_T47 y434 x13_1).f0))).trans hx441_0; replace hx441_0 := (cell_far (p := ⟨gb439, 1, none⟩) (by first | (rw [add_block]; exact hn441_1) | (show (Addr.add _ _).block ≠ _; rw [add_block]; exact hn441_1) | exact hn441_1) (.int .i64 ((rd_T47 y434 x13_1).f1))).trans hx441_0; replace hx441_0 := (cell_far (p := ⟨gb439, 2, none⟩) (by first | (rw [add_block]; exact hn441_2) | (show (Addr.add _ _).block ≠ _; rw [add_block]; exact hn441_2) | exact hn441_2) (.int .i64 ((rd_T47 y434 x13_1).f2))).trans hx441_0; (try have hy441_0 := fun (n_ : Nat) => (show (((((w15.drewN n_).setCell ⟨gb439, 0, none⟩ (.int .i64 ((rd_T47 y434 x13_1).f0))).setCell ⟨gb439, 1, none⟩ (.int .i64 ((rd_T47 y434 x13_1).f1))).setCell ⟨gb439, 2, none⟩ (.int .i64 ((rd_T47 y434 x13_1).f2)))).cell? _ = some _ from hx441_0)); clear hn441_0; clear hn441_1; clear hn441_2; replace p441 := eq_true p441; replace q441 := eq_true q441))
                          repeat (go_quiet (first | ((with_reducible refine gate_dst (N := 8) rfl ?_); refine box_event ?hg (N := 8) ?hd (cs := #[.int .i64 0, .int .i64 0, .int .i64 0]) (t := 47) ?hr ?_; (case hd => rfl); (case hg => rfl); (case hr => first | (go_simp; done) | (go_simp; rfl)); intro gb439 hg w15 hbox hb; have n0_ := Aside0.mk (below_step (by repeat (first | (with_reducible first | exact HB.out | apply below_alloc | apply pw_below_drewN | apply below_drew1) | exact HB.out)) hb); have n1_ := Aside0.mk (hbox); have n2_ := Aside0.mk ((by rw [hg]; exact (below_size (by repeat (first | (with_reducible first | exact HB.out | apply below_alloc | apply pw_below_drewN | apply below_drew1) | exact HB.out))) : w.heap.size ≤ gb439)); have n3_ := Aside0.mk ((by rw [hg]; exact (below_size (by repeat (first | (with_reducible first | exact HB.out | apply below_alloc | apply pw_below_drewN | apply below_drew1) | exact HB.out))) : w.heap.size ≤ gb439)); clear HB; have HB := n0_; have BK439 := n1_; have GW439 := n2_; have GE439 := n3_; clear n0_ n1_ n2_ n3_; clear hb hbox hg; have hcz16_0 : w15.cell? ⟨gb439, 0, none⟩ = some (.int .i64 0) := (blk_cell BK439.out 0).trans rfl; have hcz16_1 : w15.cell? ⟨gb439, 1, none⟩ = some (.int .i64 0) := (blk_cell BK439.out 1).trans rfl; have hcz16_2 : w15.cell? ⟨gb439, 2, none⟩ = some (.int .i64 0) := (blk_cell BK439.out 2).trans rfl; have hfz16_0 := blk_frozen BK439.out 0; have hfz16_1 := blk_frozen BK439.out 1; have hfz16_2 := blk_frozen BK439.out 2; have p440 : 0 ≤ (a2 : Int) := of_decide_eq_true (by first | (with_reducible assumption) | assumption); have q440 : a2 < (l0.length : Int) := of_decide_eq_true (by first | (with_reducible assumption) | assumption); obtain ⟨ad440, e440, hx440_0, hx440_1, hx440_2⟩ := at_T47 HR0.out a2 p440 q440; obtain rfl : ad438 = ad440 := (by injection e440); have hn440_0 : ad438.block ≠ gb439 := Nat.ne_of_lt (Nat.lt_of_lt_of_le (by have := World.block_lt_of_cell? _ _ hx440_0; first | rwa [add_block] at this | exact this) GW439.out); have hn440_1 : ad438.block ≠ gb439 := Nat.ne_of_lt (Nat.lt_of_lt_of_le (by have := World.block_lt_of_cell? _ _ hx440_0; first | rwa [add_block] at this | exact this) GW439.out); have hn440_2 : ad438.block ≠ gb439 := Nat.ne_of_lt (Nat.lt_of_lt_of_le (by have := World.block_lt_of_cell? _ _ hx440_0; first | rwa [add_block] at this | exact this) GW439.out); replace hx440_0 := (HB.out.cell (World.block_lt_of_cell? w _ hx440_0)).trans hx440_0; replace hx440_1 := (HB.out.cell (World.block_lt_of_cell? w _ hx440_1)).trans hx440_1; replace hx440_2 := (HB.out.cell (World.block_lt_of_cell? w _ hx440_2)).trans hx440_2; replace hx440_0 := (cell_far (p := ⟨gb439, 0, none⟩) (by first | (rw [add_block]; exact hn440_0) | (show (Addr.add _ _).block ≠ _; rw [add_block]; exact hn440_0) | exact hn440_0) (.int .i64 ((rd_T47 y434 x13_1).f0))).trans hx440_0; replace hx440_1 := (cell_far (p := ⟨gb439, 0, none⟩) (by first | (rw [add_block]; exact hn440_0) | (show (Addr.add _ _).block ≠ _; rw [add_block]; exact hn440_0) | exact hn440_0) (.int .i64 ((rd_T47 y434 x13_1).f0))).trans hx440_1; replace hx440_2 := (cell_far (p := ⟨gb439, 0, none⟩) (by first | (rw [add_block]; exact hn440_0) | (show (Addr.add _ _).block ≠ _; rw [add_block]; exact hn440_0) | exact hn440_0) (.int .i64 ((rd_T47 y434 x13_1).f0))).trans hx440_2; replace hx440_0 := (cell_far (p := ⟨gb439, 1, none⟩) (by first | (rw [add_block]; exact hn440_1) | (show (Addr.add _ _).block ≠ _; rw [add_block]; exact hn440_1) | exact hn440_1) (.int .i64 ((rd_T47 y434 x13_1).f1))).trans hx440_0; replace hx440_1 := (cell_far (p := ⟨gb439, 1, none⟩) (by first | (rw [add_block]; exact hn440_1) | (show (Addr.add _ _).block ≠ _; rw [add_block]; exact hn440_1) | exact hn440_1) (.int .i64 ((rd_T47 y434 x13_1).f1))).trans hx440_1; replace hx440_2 := (cell_far (p := ⟨gb439, 1, none⟩) (by first | (rw [add_block]; exact hn440_1) | (show (Addr.add _ _).block ≠ _; rw [add_block]; exact hn440_1) | exact hn440_1) (.int .i64 ((rd_T47 y434 x13_1).f1))).trans hx440_2; replace hx440_0 := (cell_far (p := ⟨gb439, 2, none⟩) (by first | (rw [add_block]; exact hn440_2) | (show (Addr.add _ _).block ≠ _; rw [add_block]; exact hn440_2) | exact hn440_2) (.int .i64 ((rd_T47 y434 x13_1).f2))).trans hx440_0; replace hx440_1 := (cell_far (p := ⟨gb439, 2, none⟩) (by first | (rw [add_block]; exact hn440_2) | (show (Addr.add _ _).block ≠ _; rw [add_block]; exact hn440_2) | exact hn440_2) (.int .i64 ((rd_T47 y434 x13_1).f2))).trans hx440_1; replace hx440_2 := (cell_far (p := ⟨gb439, 2, none⟩) (by first | (rw [add_block]; exact hn440_2) | (show (Addr.add _ _).block ≠ _; rw [add_block]; exact hn440_2) | exact hn440_2) (.int .i64 ((rd_T47 y434 x13_1).f2))).trans hx440_2; (try have hy440_0 := fun (n_ : Nat) => (show (((((w15.drewN n_).setCell ⟨gb439, 0, none⟩ (.int .i64 ((rd_T47 y434 x13_1).f0))).setCell ⟨gb439, 1, none⟩ (.int .i64 ((rd_T47 y434 x13_1).f1))).setCell ⟨gb439, 2, none⟩ (.int .i64 ((rd_T47 y434 x13_1).f2)))).cell? _ = some _ from hx440_0)); (try have hy440_1 := fun (n_ : Nat) => (show (((((w15.drewN n_).setCell ⟨gb439, 0, none⟩ (.int .i64 ((rd_T47 y434 x13_1).f0))).setCell ⟨gb439, 1, none⟩ (.int .i64 ((rd_T47 y434 x13_1).f1))).setCell ⟨gb439, 2, none⟩ (.int .i64 ((rd_T47 y434 x13_1).f2)))).cell? _ = some _ from hx440_1)); (try have hy440_2 := fun (n_ : Nat) => (show (((((w15.drewN n_).setCell ⟨gb439, 0, none⟩ (.int .i64 ((rd_T47 y434 x13_1).f0))).setCell ⟨gb439, 1, none⟩ (.int .i64 ((rd_T47 y434 x13_1).f1))).setCell ⟨gb439, 2, none⟩ (.int .i64 ((rd_T47 y434 x13_1).f2)))).cell? _ = some _ from hx440_2)); clear hn440_0; clear hn440_1; clear hn440_2; replace p440 := eq_true p440; replace q440 := eq_true q440; have p441 : 0 ≤ (x13_1 : Int) := of_decide_eq_true (by first | (with_reducible assumption) | assumption); have q441 : x13_1 < (l1.length : Int) := of_decide_eq_true (by first | (with_reducible assumption) | assumption); obtain ⟨ad441, e441, hx441_0⟩ := Kd.at_int HR1.out x13_1 p441 q441; cases e441; have hn441_0 : ad441.block ≠ gb439 := Nat.ne_of_lt (Nat.lt_of_lt_of_le (by have := World.block_lt_of_cell? _ _ hx441_0; first | rwa [add_block] at this | exact this) GW439.out); have hn441_1 : ad441.block ≠ gb439 := Nat.ne_of_lt (Nat.lt_of_lt_of_le (by have := World.block_lt_of_cell? _ _ hx441_0; first | rwa [add_block] at this | exact this) GW439.out); have hn441_2 : ad441.block ≠ gb439 := Nat.ne_of_lt (Nat.lt_of_lt_of_le (by have := World.block_lt_of_cell? _ _ hx441_0; first | rwa [add_block] at this | exact this) GW439.out); replace hx441_0 := (HB.out.cell (World.block_lt_of_cell? w _ hx441_0)).trans hx441_0; replace hx441_0 := (cell_far (p := ⟨gb439, 0, none⟩) (by first | (rw [add_block]; exact hn441_0) | (show (Addr.add _ _).block ≠ _; rw [add_block]; exact hn441_0) | exact hn441_0) (.int .i64 ((rd_T47 y434 x13_1).f0))).trans hx441_0; replace hx441_0 := (cell_far (p := ⟨gb439, 1, none⟩) (by first | (rw [add_block]; exact hn441_1) | (show (Addr.add _ _).block ≠ _; rw [add_block]; exact hn441_1) | exact hn441_1) (.int .i64 ((rd_T47 y434 x13_1).f1))).trans hx441_0; replace hx441_0 := (cell_far (p := ⟨gb439, 2, none⟩) (by first | (rw [add_block]; exact hn441_2) | (show (Addr.add _ _).block ≠ _; rw [add_block]; exact hn441_2) | exact hn441_2) (.int .i64 ((rd_T47 y434 x13_1).f2))).trans hx441_0; (try have hy441_0 := fun (n_ : Nat) => (show (((((w15.drewN n_).setCell ⟨gb439, 0, none⟩ (.int .i64 ((rd_T47 y434 x13_1).f0))).setCell ⟨gb439, 1, none⟩ (.int .i64 ((rd_T47 y434 x13_1).f1))).setCell ⟨gb439, 2, none⟩ (.int .i64 ((rd_T47 y434 x13_1).f2)))).cell? _ = some _ from hx441_0)); clear hn441_0; clear hn441_1; clear hn441_2; replace p441 := eq_true p441; replace q441 := eq_true q441)); try go_wp2_with (first | ((with_reducible refine gate_dst (N := 8) rfl ?_); refine box_event ?hg (N := 8) ?hd (cs := #[.int .i64 0, .int .i64 0, .int .i64 0]) (t := 47) ?hr ?_; (case hd => rfl); (case hg => rfl); (case hr => first | (go_simp; done) | (go_simp; rfl)); intro gb439 hg w15 hbox hb; have n0_ := Aside0.mk (below_step (by repeat (first | (with_reducible first | exact HB.out | apply below_alloc | apply pw_below_drewN | apply below_drew1) | exact HB.out)) hb); have n1_ := Aside0.mk (hbox); have n2_ := Aside0.mk ((by rw [hg]; exact (below_size (by repeat (first | (with_reducible first | exact HB.out | apply below_alloc | apply pw_below_drewN | apply below_drew1) | exact HB.out))) : w.heap.size ≤ gb439)); have n3_ := Aside0.mk ((by rw [hg]; exact (below_size (by repeat (first | (with_reducible first | exact HB.out | apply below_alloc | apply pw_below_drewN | apply below_drew1) | exact HB.out))) : w.heap.size ≤ gb439)); clear HB; have HB := n0_; have BK439 := n1_; have GW439 := n2_; have GE439 := n3_; clear n0_ n1_ n2_ n3_; clear hb hbox hg; have hcz16_0 : w15.cell? ⟨gb439, 0, none⟩ = some (.int .i64 0) := (blk_cell BK439.out 0).trans rfl; have hcz16_1 : w15.cell? ⟨gb439, 1, none⟩ = some (.int .i64 0) := (blk_cell BK439.out 1).trans rfl; have hcz16_2 : w15.cell? ⟨gb439, 2, none⟩ = some (.int .i64 0) := (blk_cell BK439.out 2).trans rfl; have hfz16_0 := blk_frozen BK439.out 0; have hfz16_1 := blk_frozen BK439.out 1; have hfz16_2 := blk_frozen BK439.out 2; have p440 : 0 ≤ (a2 : Int) := of_decide_eq_true (by first | (with_reducible assumption) | assumption); have q440 : a2 < (l0.length : Int) := of_decide_eq_true (by first | (with_reducible assumption) | assumption); obtain ⟨ad440, e440, hx440_0, hx440_1, hx440_2⟩ := at_T47 HR0.out a2 p440 q440; obtain rfl : ad438 = ad440 := (by injection e440); have hn440_0 : ad438.block ≠ gb439 := Nat.ne_of_lt (Nat.lt_of_lt_of_le (by have := World.block_lt_of_cell? _ _ hx440_0; first | rwa [add_block] at this | exact this) GW439.out); have hn440_1 : ad438.block ≠ gb439 := Nat.ne_of_lt (Nat.lt_of_lt_of_le (by have := World.block_lt_of_cell? _ _ hx440_0; first | rwa [add_block] at this | exact this) GW439.out); have hn440_2 : ad438.block ≠ gb439 := Nat.ne_of_lt (Nat.lt_of_lt_of_le (by have := World.block_lt_of_cell? _ _ hx440_0; first | rwa [add_block] at this | exact this) GW439.out); replace hx440_0 := (HB.out.cell (World.block_lt_of_cell? w _ hx440_0)).trans hx440_0; replace hx440_1 := (HB.out.cell (World.block_lt_of_cell? w _ hx440_1)).trans hx440_1; replace hx440_2 := (HB.out.cell (World.block_lt_of_cell? w _ hx440_2)).trans hx440_2; replace hx440_0 := (cell_far (p := ⟨gb439, 0, none⟩) (by first | (rw [add_block]; exact hn440_0) | (show (Addr.add _ _).block ≠ _; rw [add_block]; exact hn440_0) | exact hn440_0) (.int .i64 ((rd_T47 y434 x13_1).f0))).trans hx440_0; replace hx440_1 := (cell_far (p := ⟨gb439, 0, none⟩) (by first | (rw [add_block]; exact hn440_0) | (show (Addr.add _ _).block ≠ _; rw [add_block]; exact hn440_0) | exact hn440_0) (.int .i64 ((rd_T47 y434 x13_1).f0))).trans hx440_1; replace hx440_2 := (cell_far (p := ⟨gb439, 0, none⟩) (by first | (rw [add_block]; exact hn440_0) | (show (Addr.add _ _).block ≠ _; rw [add_block]; exact hn440_0) | exact hn440_0) (.int .i64 ((rd_T47 y434 x13_1).f0))).trans hx440_2; replace hx440_0 := (cell_far (p := ⟨gb439, 1, none⟩) (by first | (rw [add_block]; exact hn440_1) | (show (Addr.add _ _).block ≠ _; rw [add_block]; exact hn440_1) | exact hn440_1) (.int .i64 ((rd_T47 y434 x13_1).f1))).trans hx440_0; replace hx440_1 := (cell_far (p := ⟨gb439, 1, none⟩) (by first | (rw [add_block]; exact hn440_1) | (show (Addr.add _ _).block ≠ _; rw [add_block]; exact hn440_1) | exact hn440_1) (.int .i64 ((rd_T47 y434 x13_1).f1))).trans hx440_1; replace hx440_2 := (cell_far (p := ⟨gb439, 1, none⟩) (by first | (rw [add_block]; exact hn440_1) | (show (Addr.add _ _).block ≠ _; rw [add_block]; exact hn440_1) | exact hn440_1) (.int .i64 ((rd_T47 y434 x13_1).f1))).trans hx440_2; replace hx440_0 := (cell_far (p := ⟨gb439, 2, none⟩) (by first | (rw [add_block]; exact hn440_2) | (show (Addr.add _ _).block ≠ _; rw [add_block]; exact hn440_2) | exact hn440_2) (.int .i64 ((rd_T47 y434 x13_1).f2))).trans hx440_0; replace hx440_1 := (cell_far (p := ⟨gb439, 2, none⟩) (by first | (rw [add_block]; exact hn440_2) | (show (Addr.add _ _).block ≠ _; rw [add_block]; exact hn440_2) | exact hn440_2) (.int .i64 ((rd_T47 y434 x13_1).f2))).trans hx440_1; replace hx440_2 := (cell_far (p := ⟨gb439, 2, none⟩) (by first | (rw [add_block]; exact hn440_2) | (show (Addr.add _ _).block ≠ _; rw [add_block]; exact hn440_2) | exact hn440_2) (.int .i64 ((rd_T47 y434 x13_1).f2))).trans hx440_2; (try have hy440_0 := fun (n_ : Nat) => (show (((((w15.drewN n_).setCell ⟨gb439, 0, none⟩ (.int .i64 ((rd_T47 y434 x13_1).f0))).setCell ⟨gb439, 1, none⟩ (.int .i64 ((rd_T47 y434 x13_1).f1))).setCell ⟨gb439, 2, none⟩ (.int .i64 ((rd_T47 y434 x13_1).f2)))).cell? _ = some _ from hx440_0)); (try have hy440_1 := fun (n_ : Nat) => (show (((((w15.drewN n_).setCell ⟨gb439, 0, none⟩ (.int .i64 ((rd_T47 y434 x13_1).f0))).setCell ⟨gb439, 1, none⟩ (.int .i64 ((rd_T47 y434 x13_1).f1))).setCell ⟨gb439, 2, none⟩ (.int .i64 ((rd_T47 y434 x13_1).f2)))).cell? _ = some _ from hx440_1)); (try have hy440_2 := fun (n_ : Nat) => (show (((((w15.drewN n_).setCell ⟨gb439, 0, none⟩ (.int .i64 ((rd_T47 y434 x13_1).f0))).setCell ⟨gb439, 1, none⟩ (.int .i64 ((rd_T47 y434 x13_1).f1))).setCell ⟨gb439, 2, none⟩ (.int .i64 ((rd_T47 y434 x13_1).f2)))).cell? _ = some _ from hx440_2)); clear hn440_0; clear hn440_1; clear hn440_2; replace p440 := eq_true p440; replace q440 := eq_true q440; have p441 : 0 ≤ (x13_1 : Int) := of_decide_eq_true (by first | (with_reducible assumption) | assumption); have q441 : x13_1 < (l1.length : Int) := of_decide_eq_true (by first | (with_reducible assumption) | assumption); obtain ⟨ad441, e441, hx441_0⟩ := Kd.at_int HR1.out x13_1 p441 q441; cases e441; have hn441_0 : ad441.block ≠ gb439 := Nat.ne_of_lt (Nat.lt_of_lt_of_le (by have := World.block_lt_of_cell? _ _ hx441_0; first | rwa [add_block] at this | exact this) GW439.out); have hn441_1 : ad441.block ≠ gb439 := Nat.ne_of_lt (Nat.lt_of_lt_of_le (by have := World.block_lt_of_cell? _ _ hx441_0; first | rwa [add_block] at this | exact this) GW439.out); have hn441_2 : ad441.block ≠ gb439 := Nat.ne_of_lt (Nat.lt_of_lt_of_le (by have := World.block_lt_of_cell? _ _ hx441_0; first | rwa [add_block] at this | exact this) GW439.out); replace hx441_0 := (HB.out.cell (World.block_lt_of_cell? w _ hx441_0)).trans hx441_0; replace hx441_0 := (cell_far (p := ⟨gb439, 0, none⟩) (by first | (rw [add_block]; exact hn441_0) | (show (Addr.add _ _).block ≠ _; rw [add_block]; exact hn441_0) | exact hn441_0) (.int .i64 ((rd_T47 y434 x13_1).f0))).trans hx441_0; replace hx441_0 := (cell_far (p := ⟨gb439, 1, none⟩) (by first | (rw [add_block]; exact hn441_1) | (show (Addr.add _ _).block ≠ _; rw [add_block]; exact hn441_1) | exact hn441_1) (.int .i64 ((rd_T47 y434 x13_1).f1))).trans hx441_0; replace hx441_0 := (cell_far (p := ⟨gb439, 2, none⟩) (by first | (rw [add_block]; exact hn441_2) | (show (Addr.add _ _).block ≠ _; rw [add_block]; exact hn441_2) | exact hn441_2) (.int .i64 ((rd_T47 y434 x13_1).f2))).trans hx441_0; (try have hy441_0 := fun (n_ : Nat) => (show (((((w15.drewN n_).setCell ⟨gb439, 0, none⟩ (.int .i64 ((rd_T47 y434 x13_1).f0))).setCell ⟨gb439, 1, none⟩ (.int .i64 ((rd_T47 y434 x13_1).f1))).setCell ⟨gb439, 2, none⟩ (.int .i64 ((rd_T47 y434 x13_1).f2)))).cell? _ = some _ from hx441_0)); clear hn441_0; clear hn441_1; clear hn441_2; replace p441 := eq_true p441; replace q441 := eq_true q441)))
                          go_ret
                          exact ⟨by first | rfl | (simp [errW_none, errW_some] <;> rfl) | (simp [*, errW_none, errW_some] <;> rfl), by repeat (first | (with_reducible first | exact HB.out | apply below_alloc | apply pw_below_drewN | apply below_drew1 | refine below_set ?_ GE439.out) | exact HB.out)⟩
                        · rw [if_neg c14] at H
                          have c14b0 : ((rd l1 x13_1) == 0) = false := beq_eq_false_iff_ne.mpr c14
                          have c14b1 : ((rd l1 x13_1) != 0) = true := bne_iff_ne.mpr c14
                          have H' := Aside0.mk H
                          clear H
                          have p438 : 0 ≤ (x13_1 : Int) := of_decide_eq_true (by first | (with_reducible assumption) | assumption)
                          have q438 : x13_1 < (y434.length : Int) := of_decide_eq_true (by first | (with_reducible assumption) | assumption)
                          obtain ⟨ad438, e438, hx438_0, hx438_1, hx438_2⟩ := at_T47 HR437.out x13_1 p438 q438
                          cases e438
                          replace hx438_0 := (HB.out.cell (World.block_lt_of_cell? w _ hx438_0)).trans hx438_0
                          replace hx438_1 := (HB.out.cell (World.block_lt_of_cell? w _ hx438_1)).trans hx438_1
                          replace hx438_2 := (HB.out.cell (World.block_lt_of_cell? w _ hx438_2)).trans hx438_2
                          replace p438 := eq_true p438
                          replace q438 := eq_true q438
                          go_wp2_with (first | ((with_reducible refine gate_dst (N := 8) rfl ?_); refine box_event ?hg (N := 8) ?hd (cs := #[.int .i64 0, .int .i64 0, .int .i64 0]) (t := 47) ?hr ?_; (case hd => rfl); (case hg => rfl); (case hr => first | (go_simp; done) | (go_simp; rfl)); intro gb439 hg w17 hbox hb; have n0_ := Aside0.mk (below_step (by repeat (first | (with_reducible first | exact HB.out | apply below_alloc | apply pw_below_drewN | apply below_drew1) | exact HB.out)) hb); have n1_ := Aside0.mk (hbox); have n2_ := Aside0.mk ((by rw [hg]; exact (below_size (by repeat (first | (with_reducible first | exact HB.out | apply below_alloc | apply pw_below_drewN | apply below_drew1) | exact HB.out))) : w.heap.size ≤ gb439)); have n3_ := Aside0.mk ((by rw [hg]; exact (below_size (by repeat (first | (with_reducible first | exact HB.out | apply below_alloc | apply pw_below_drewN | apply below_drew1) | exact HB.out))) : w.heap.size ≤ gb439)); clear HB; have HB := n0_; have BK439 := n1_; have GW439 := n2_; have GE439 := n3_; clear n0_ n1_ n2_ n3_; clear hb hbox hg; have hcz18_0 : w17.cell? ⟨gb439, 0, none⟩ = some (.int .i64 0) := (blk_cell BK439.out 0).trans rfl; have hcz18_1 : w17.cell? ⟨gb439, 1, none⟩ = some (.int .i64 0) := (blk_cell BK439.out 1).trans rfl; have hcz18_2 : w17.cell? ⟨gb439, 2, none⟩ = some (.int .i64 0) := (blk_cell BK439.out 2).trans rfl; have hfz18_0 := blk_frozen BK439.out 0; have hfz18_1 := blk_frozen BK439.out 1; have hfz18_2 := blk_frozen BK439.out 2; have p440 : 0 ≤ (a2 : Int) := of_decide_eq_true (by first | (with_reducible assumption) | assumption); have q440 : a2 < (l0.length : Int) := of_decide_eq_true (by first | (with_reducible assumption) | assumption); obtain ⟨ad440, e440, hx440_0, hx440_1, hx440_2⟩ := at_T47 HR0.out a2 p440 q440; obtain rfl : ad438 = ad440 := (by injection e440); have hn440_0 : ad438.block ≠ gb439 := Nat.ne_of_lt (Nat.lt_of_lt_of_le (by have := World.block_lt_of_cell? _ _ hx440_0; first | rwa [add_block] at this | exact this) GW439.out); have hn440_1 : ad438.block ≠ gb439 := Nat.ne_of_lt (Nat.lt_of_lt_of_le (by have := World.block_lt_of_cell? _ _ hx440_0; first | rwa [add_block] at this | exact this) GW439.out); have hn440_2 : ad438.block ≠ gb439 := Nat.ne_of_lt (Nat.lt_of_lt_of_le (by have := World.block_lt_of_cell? _ _ hx440_0; first | rwa [add_block] at this | exact this) GW439.out); replace hx440_0 := (HB.out.cell (World.block_lt_of_cell? w _ hx440_0)).trans hx440_0; replace hx440_1 := (HB.out.cell (World.block_lt_of_cell? w _ hx440_1)).trans hx440_1; replace hx440_2 := (HB.out.cell (World.block_lt_of_cell? w _ hx440_2)).trans hx440_2; replace hx440_0 := (cell_far (p := ⟨gb439, 0, none⟩) (by first | (rw [add_block]; exact hn440_0) | (show (Addr.add _ _).block ≠ _; rw [add_block]; exact hn440_0) | exact hn440_0) (.int .i64 ((rd_T47 y434 x13_1).f0))).trans hx440_0; replace hx440_1 := (cell_far (p := ⟨gb439, 0, none⟩) (by first | (rw [add_block]; exact hn440_0) | (show (Addr.add _ _).block ≠ _; rw [add_block]; exact hn440_0) | exact hn440_0) (.int .i64 ((rd_T47 y434 x13_1).f0))).trans hx440_1; replace hx440_2 := (cell_far (p := ⟨gb439, 0, none⟩) (by first | (rw [add_block]; exact hn440_0) | (show (Addr.add _ _).block ≠ _; rw [add_block]; exact hn440_0) | exact hn440_0) (.int .i64 ((rd_T47 y434 x13_1).f0))).trans hx440_2; replace hx440_0 := (cell_far (p := ⟨gb439, 1, none⟩) (by first | (rw [add_block]; exact hn440_1) | (show (Addr.add _ _).block ≠ _; rw [add_block]; exact hn440_1) | exact hn440_1) (.int .i64 ((rd_T47 y434 x13_1).f1))).trans hx440_0; replace hx440_1 := (cell_far (p := ⟨gb439, 1, none⟩) (by first | (rw [add_block]; exact hn440_1) | (show (Addr.add _ _).block ≠ _; rw [add_block]; exact hn440_1) | exact hn440_1) (.int .i64 ((rd_T47 y434 x13_1).f1))).trans hx440_1; replace hx440_2 := (cell_far (p := ⟨gb439, 1, none⟩) (by first | (rw [add_block]; exact hn440_1) | (show (Addr.add _ _).block ≠ _; rw [add_block]; exact hn440_1) | exact hn440_1) (.int .i64 ((rd_T47 y434 x13_1).f1))).trans hx440_2; replace hx440_0 := (cell_far (p := ⟨gb439, 2, none⟩) (by first | (rw [add_block]; exact hn440_2) | (show (Addr.add _ _).block ≠ _; rw [add_block]; exact hn440_2) | exact hn440_2) (.int .i64 ((rd_T47 y434 x13_1).f2))).trans hx440_0; replace hx440_1 := (cell_far (p := ⟨gb439, 2, none⟩) (by first | (rw [add_block]; exact hn440_2) | (show (Addr.add _ _).block ≠ _; rw [add_block]; exact hn440_2) | exact hn440_2) (.int .i64 ((rd_T47 y434 x13_1).f2))).trans hx440_1; replace hx440_2 := (cell_far (p := ⟨gb439, 2, none⟩) (by first | (rw [add_block]; exact hn440_2) | (show (Addr.add _ _).block ≠ _; rw [add_block]; exact hn440_2) | exact hn440_2) (.int .i64 ((rd_T47 y434 x13_1).f2))).trans hx440_2; (try have hy440_0 := fun (n_ : Nat) => (show (((((w17.drewN n_).setCell ⟨gb439, 0, none⟩ (.int .i64 ((rd_T47 y434 x13_1).f0))).setCell ⟨gb439, 1, none⟩ (.int .i64 ((rd_T47 y434 x13_1).f1))).setCell ⟨gb439, 2, none⟩ (.int .i64 ((rd_T47 y434 x13_1).f2)))).cell? _ = some _ from hx440_0)); (try have hy440_1 := fun (n_ : Nat) => (show (((((w17.drewN n_).setCell ⟨gb439, 0, none⟩ (.int .i64 ((rd_T47 y434 x13_1).f0))).setCell ⟨gb439, 1, none⟩ (.int .i64 ((rd_T47 y434 x13_1).f1))).setCell ⟨gb439, 2, none⟩ (.int .i64 ((rd_T47 y434 x13_1).f2)))).cell? _ = some _ from hx440_1)); (try have hy440_2 := fun (n_ : Nat) => (show (((((w17.drewN n_).setCell ⟨gb439, 0, none⟩ (.int .i64 ((rd_T47 y434 x13_1).f0))).setCell ⟨gb439, 1, none⟩ (.int .i64 ((rd_T47 y434 x13_1).f1))).setCell ⟨gb439, 2, none⟩ (.int .i64 ((rd_T47 y434 x13_1).f2)))).cell? _ = some _ from hx440_2)); clear hn440_0; clear hn440_1; clear hn440_2; replace p440 := eq_true p440; replace q440 := eq_true q440; have p441 : 0 ≤ (x13_1 : Int) := of_decide_eq_true (by first | (with_reducible assumption) | assumption); have q441 : x13_1 < (l1.length : Int) := of_decide_eq_true (by first | (with_reducible assumption) | assumption); obtain ⟨ad441, e441, hx441_0⟩ := Kd.at_int HR1.out x13_1 p441 q441; cases e441; have hn441_0 : ad441.block ≠ gb439 := Nat.ne_of_lt (Nat.lt_of_lt_of_le (by have := World.block_lt_of_cell? _ _ hx441_0; first | rwa [add_block] at this | exact this) GW439.out); have hn441_1 : ad441.block ≠ gb439 := Nat.ne_of_lt (Nat.lt_of_lt_of_le (by have := World.block_lt_of_cell? _ _ hx441_0; first | rwa [add_block] at this | exact this) GW439.out); have hn441_2 : ad441.block ≠ gb439 := Nat.ne_of_lt (Nat.lt_of_lt_of_le (by have := World.block_lt_of_cell? _ _ hx441_0; first | rwa [add_block] at this | exact this) GW439.out); replace hx441_0 := (HB.out.cell (World.block_lt_of_cell? w _ hx441_0)).trans hx441_0; replace hx441_0 := (cell_far (p := ⟨gb439, 0, none⟩) (by first | (rw [add_block]; exact hn441_0) | (show (Addr.add _ _).block ≠ _; rw [add_block]; exact hn441_0) | exact hn441_0) (.int .i64 ((rd_T47 y434 x13_1).f0))).trans hx441_0; replace hx441_0 := (cell_far (p := ⟨gb439, 1, none⟩) (by first | (rw [add_block]; exact hn441_1) | (show (Addr.add _ _).block ≠ _; rw [add_block]; exact hn441_1) | exact hn441_1) (.int .i64 ((rd_T47 y434 x13_1).f1))).trans hx441_0; replace hx441_0 := (cell_far (p := ⟨gb439, 2, none⟩) (by first | (rw [add_block]; exact hn441_2) | (show (Addr.add _ _).block ≠ _; rw [add_block]; exact hn441_2) | exact hn441_2) (.int .i64 ((rd_T47 y434 x13_1).f2))).trans hx441_0; (try have hy441_0 := fun (n_ : Nat) => (show (((((w17.drewN n_).setCell ⟨gb439, 0, none⟩ (.int .i64 ((rd_T47 y434 x13_1).f0))).setCell ⟨gb439, 1, none⟩ (.int .i64 ((rd_T47 y434 x13_1).f1))).setCell ⟨gb439, 2, none⟩ (.int .i64 ((rd_T47 y434 x13_1).f2)))).cell? _ = some _ from hx441_0)); clear hn441_0; clear hn441_1; clear hn441_2; replace p441 := eq_true p441; replace q441 := eq_true q441))
                          repeat (go_quiet (first | ((with_reducible refine gate_dst (N := 8) rfl ?_); refine box_event ?hg (N := 8) ?hd (cs := #[.int .i64 0, .int .i64 0, .int .i64 0]) (t := 47) ?hr ?_; (case hd => rfl); (case hg => rfl); (case hr => first | (go_simp; done) | (go_simp; rfl)); intro gb439 hg w17 hbox hb; have n0_ := Aside0.mk (below_step (by repeat (first | (with_reducible first | exact HB.out | apply below_alloc | apply pw_below_drewN | apply below_drew1) | exact HB.out)) hb); have n1_ := Aside0.mk (hbox); have n2_ := Aside0.mk ((by rw [hg]; exact (below_size (by repeat (first | (with_reducible first | exact HB.out | apply below_alloc | apply pw_below_drewN | apply below_drew1) | exact HB.out))) : w.heap.size ≤ gb439)); have n3_ := Aside0.mk ((by rw [hg]; exact (below_size (by repeat (first | (with_reducible first | exact HB.out | apply below_alloc | apply pw_below_drewN | apply below_drew1) | exact HB.out))) : w.heap.size ≤ gb439)); clear HB; have HB := n0_; have BK439 := n1_; have GW439 := n2_; have GE439 := n3_; clear n0_ n1_ n2_ n3_; clear hb hbox hg; have hcz18_0 : w17.cell? ⟨gb439, 0, none⟩ = some (.int .i64 0) := (blk_cell BK439.out 0).trans rfl; have hcz18_1 : w17.cell? ⟨gb439, 1, none⟩ = some (.int .i64 0) := (blk_cell BK439.out 1).trans rfl; have hcz18_2 : w17.cell? ⟨gb439, 2, none⟩ = some (.int .i64 0) := (blk_cell BK439.out 2).trans rfl; have hfz18_0 := blk_frozen BK439.out 0; have hfz18_1 := blk_frozen BK439.out 1; have hfz18_2 := blk_frozen BK439.out 2; have p440 : 0 ≤ (a2 : Int) := of_decide_eq_true (by first | (with_reducible assumption) | assumption); have q440 : a2 < (l0.length : Int) := of_decide_eq_true (by first | (with_reducible assumption) | assumption); obtain ⟨ad440, e440, hx440_0, hx440_1, hx440_2⟩ := at_T47 HR0.out a2 p440 q440; obtain rfl : ad438 = ad440 := (by injection e440); have hn440_0 : ad438.block ≠ gb439 := Nat.ne_of_lt (Nat.lt_of_lt_of_le (by have := World.block_lt_of_cell? _ _ hx440_0; first | rwa [add_block] at this | exact this) GW439.out); have hn440_1 : ad438.block ≠ gb439 := Nat.ne_of_lt (Nat.lt_of_lt_of_le (by have := World.block_lt_of_cell? _ _ hx440_0; first | rwa [add_block] at this | exact this) GW439.out); have hn440_2 : ad438.block ≠ gb439 := Nat.ne_of_lt (Nat.lt_of_lt_of_le (by have := World.block_lt_of_cell? _ _ hx440_0; first | rwa [add_block] at this | exact this) GW439.out); replace hx440_0 := (HB.out.cell (World.block_lt_of_cell? w _ hx440_0)).trans hx440_0; replace hx440_1 := (HB.out.cell (World.block_lt_of_cell? w _ hx440_1)).trans hx440_1; replace hx440_2 := (HB.out.cell (World.block_lt_of_cell? w _ hx440_2)).trans hx440_2; replace hx440_0 := (cell_far (p := ⟨gb439, 0, none⟩) (by first | (rw [add_block]; exact hn440_0) | (show (Addr.add _ _).block ≠ _; rw [add_block]; exact hn440_0) | exact hn440_0) (.int .i64 ((rd_T47 y434 x13_1).f0))).trans hx440_0; replace hx440_1 := (cell_far (p := ⟨gb439, 0, none⟩) (by first | (rw [add_block]; exact hn440_0) | (show (Addr.add _ _).block ≠ _; rw [add_block]; exact hn440_0) | exact hn440_0) (.int .i64 ((rd_T47 y434 x13_1).f0))).trans hx440_1; replace hx440_2 := (cell_far (p := ⟨gb439, 0, none⟩) (by first | (rw [add_block]; exact hn440_0) | (show (Addr.add _ _).block ≠ _; rw [add_block]; exact hn440_0) | exact hn440_0) (.int .i64 ((rd_T47 y434 x13_1).f0))).trans hx440_2; replace hx440_0 := (cell_far (p := ⟨gb439, 1, none⟩) (by first | (rw [add_block]; exact hn440_1) | (show (Addr.add _ _).block ≠ _; rw [add_block]; exact hn440_1) | exact hn440_1) (.int .i64 ((rd_T47 y434 x13_1).f1))).trans hx440_0; replace hx440_1 := (cell_far (p := ⟨gb439, 1, none⟩) (by first | (rw [add_block]; exact hn440_1) | (show (Addr.add _ _).block ≠ _; rw [add_block]; exact hn440_1) | exact hn440_1) (.int .i64 ((rd_T47 y434 x13_1).f1))).trans hx440_1; replace hx440_2 := (cell_far (p := ⟨gb439, 1, none⟩) (by first | (rw [add_block]; exact hn440_1) | (show (Addr.add _ _).block ≠ _; rw [add_block]; exact hn440_1) | exact hn440_1) (.int .i64 ((rd_T47 y434 x13_1).f1))).trans hx440_2; replace hx440_0 := (cell_far (p := ⟨gb439, 2, none⟩) (by first | (rw [add_block]; exact hn440_2) | (show (Addr.add _ _).block ≠ _; rw [add_block]; exact hn440_2) | exact hn440_2) (.int .i64 ((rd_T47 y434 x13_1).f2))).trans hx440_0; replace hx440_1 := (cell_far (p := ⟨gb439, 2, none⟩) (by first | (rw [add_block]; exact hn440_2) | (show (Addr.add _ _).block ≠ _; rw [add_block]; exact hn440_2) | exact hn440_2) (.int .i64 ((rd_T47 y434 x13_1).f2))).trans hx440_1; replace hx440_2 := (cell_far (p := ⟨gb439, 2, none⟩) (by first | (rw [add_block]; exact hn440_2) | (show (Addr.add _ _).block ≠ _; rw [add_block]; exact hn440_2) | exact hn440_2) (.int .i64 ((rd_T47 y434 x13_1).f2))).trans hx440_2; (try have hy440_0 := fun (n_ : Nat) => (show (((((w17.drewN n_).setCell ⟨gb439, 0, none⟩ (.int .i64 ((rd_T47 y434 x13_1).f0))).setCell ⟨gb439, 1, none⟩ (.int .i64 ((rd_T47 y434 x13_1).f1))).setCell ⟨gb439, 2, none⟩ (.int .i64 ((rd_T47 y434 x13_1).f2)))).cell? _ = some _ from hx440_0)); (try have hy440_1 := fun (n_ : Nat) => (show (((((w17.drewN n_).setCell ⟨gb439, 0, none⟩ (.int .i64 ((rd_T47 y434 x13_1).f0))).setCell ⟨gb439, 1, none⟩ (.int .i64 ((rd_T47 y434 x13_1).f1))).setCell ⟨gb439, 2, none⟩ (.int .i64 ((rd_T47 y434 x13_1).f2)))).cell? _ = some _ from hx440_1)); (try have hy440_2 := fun (n_ : Nat) => (show (((((w17.drewN n_).setCell ⟨gb439, 0, none⟩ (.int .i64 ((rd_T47 y434 x13_1).f0))).setCell ⟨gb439, 1, none⟩ (.int .i64 ((rd_T47 y434 x13_1).f1))).setCell ⟨gb439, 2, none⟩ (.int .i64 ((rd_T47 y434 x13_1).f2)))).cell? _ = some _ from hx440_2)); clear hn440_0; clear hn440_1; clear hn440_2; replace p440 := eq_true p440; replace q440 := eq_true q440; have p441 : 0 ≤ (x13_1 : Int) := of_decide_eq_true (by first | (with_reducible assumption) | assumption); have q441 : x13_1 < (l1.length : Int) := of_decide_eq_true (by first | (with_reducible assumption) | assumption); obtain ⟨ad441, e441, hx441_0⟩ := Kd.at_int HR1.out x13_1 p441 q441; cases e441; have hn441_0 : ad441.block ≠ gb439 := Nat.ne_of_lt (Nat.lt_of_lt_of_le (by have := World.block_lt_of_cell? _ _ hx441_0; first | rwa [add_block] at this | exact this) GW439.out); have hn441_1 : ad441.block ≠ gb439 := Nat.ne_of_lt (Nat.lt_of_lt_of_le (by have := World.block_lt_of_cell? _ _ hx441_0; first | rwa [add_block] at this | exact this) GW439.out); have hn441_2 : ad441.block ≠ gb439 := Nat.ne_of_lt (Nat.lt_of_lt_of_le (by have := World.block_lt_of_cell? _ _ hx441_0; first | rwa [add_block] at this | exact this) GW439.out); replace hx441_0 := (HB.out.cell (World.block_lt_of_cell? w _ hx441_0)).trans hx441_0; replace hx441_0 := (cell_far (p := ⟨gb439, 0, none⟩) (by first | (rw [add_block]; exact hn441_0) | (show (Addr.add _ _).block ≠ _; rw [add_block]; exact hn441_0) | exact hn441_0) (.int .i64 ((rd_T47 y434 x13_1).f0))).trans hx441_0; replace hx441_0 := (cell_far (p := ⟨gb439, 1, none⟩) (by first | (rw [add_block]; exact hn441_1) | (show (Addr.add _ _).block ≠ _; rw [add_block]; exact hn441_1) | exact hn441_1) (.int .i64 ((rd_T47 y434 x13_1).f1))).trans hx441_0; replace hx441_0 := (cell_far (p := ⟨gb439, 2, none⟩) (by first | (rw [add_block]; exact hn441_2) | (show (Addr.add _ _).block ≠ _; rw [add_block]; exact hn441_2) | exact hn441_2) (.int .i64 ((rd_T47 y434 x13_1).f2))).trans hx441_0; (try have hy441_0 := fun (n_ : Nat) => (show (((((w17.drewN n_).setCell ⟨gb439, 0, none⟩ (.int .i64 ((rd_T47 y434 x13_1).f0))).setCell ⟨gb439, 1, none⟩ (.int .i64 ((rd_T47 y434 x13_1).f1))).setCell ⟨gb439, 2, none⟩ (.int .i64 ((rd_T47 y434 x13_1).f2)))).cell? _ = some _ from hx441_0)); clear hn441_0; clear hn441_1; clear hn441_2; replace p441 := eq_true p441; replace q441 := eq_true q441)); try go_wp2_with (first | ((with_reducible refine gate_dst (N := 8) rfl ?_); refine box_event ?hg (N := 8) ?hd (cs := #[.int .i64 0, .int .i64 0, .int .i64 0]) (t := 47) ?hr ?_; (case hd => rfl); (case hg => rfl); (case hr => first | (go_simp; done) | (go_simp; rfl)); intro gb439 hg w17 hbox hb; have n0_ := Aside0.mk (below_step (by repeat (first | (with_reducible first | exact HB.out | apply below_alloc | apply pw_below_drewN | apply below_drew1) | exact HB.out)) hb); have n1_ := Aside0.mk (hbox); have n2_ := Aside0.mk ((by rw [hg]; exact (below_size (by repeat (first | (with_reducible first | exact HB.out | apply below_alloc | apply pw_below_drewN | apply below_drew1) | exact HB.out))) : w.heap.size ≤ gb439)); have n3_ := Aside0.mk ((by rw [hg]; exact (below_size (by repeat (first | (with_reducible first | exact HB.out | apply below_alloc | apply pw_below_drewN | apply below_drew1) | exact HB.out))) : w.heap.size ≤ gb439)); clear HB; have HB := n0_; have BK439 := n1_; have GW439 := n2_; have GE439 := n3_; clear n0_ n1_ n2_ n3_; clear hb hbox hg; have hcz18_0 : w17.cell? ⟨gb439, 0, none⟩ = some (.int .i64 0) := (blk_cell BK439.out 0).trans rfl; have hcz18_1 : w17.cell? ⟨gb439, 1, none⟩ = some (.int .i64 0) := (blk_cell BK439.out 1).trans rfl; have hcz18_2 : w17.cell? ⟨gb439, 2, none⟩ = some (.int .i64 0) := (blk_cell BK439.out 2).trans rfl; have hfz18_0 := blk_frozen BK439.out 0; have hfz18_1 := blk_frozen BK439.out 1; have hfz18_2 := blk_frozen BK439.out 2; have p440 : 0 ≤ (a2 : Int) := of_decide_eq_true (by first | (with_reducible assumption) | assumption); have q440 : a2 < (l0.length : Int) := of_decide_eq_true (by first | (with_reducible assumption) | assumption); obtain ⟨ad440, e440, hx440_0, hx440_1, hx440_2⟩ := at_T47 HR0.out a2 p440 q440; obtain rfl : ad438 = ad440 := (by injection e440); have hn440_0 : ad438.block ≠ gb439 := Nat.ne_of_lt (Nat.lt_of_lt_of_le (by have := World.block_lt_of_cell? _ _ hx440_0; first | rwa [add_block] at this | exact this) GW439.out); have hn440_1 : ad438.block ≠ gb439 := Nat.ne_of_lt (Nat.lt_of_lt_of_le (by have := World.block_lt_of_cell? _ _ hx440_0; first | rwa [add_block] at this | exact this) GW439.out); have hn440_2 : ad438.block ≠ gb439 := Nat.ne_of_lt (Nat.lt_of_lt_of_le (by have := World.block_lt_of_cell? _ _ hx440_0; first | rwa [add_block] at this | exact this) GW439.out); replace hx440_0 := (HB.out.cell (World.block_lt_of_cell? w _ hx440_0)).trans hx440_0; replace hx440_1 := (HB.out.cell (World.block_lt_of_cell? w _ hx440_1)).trans hx440_1; replace hx440_2 := (HB.out.cell (World.block_lt_of_cell? w _ hx440_2)).trans hx440_2; replace hx440_0 := (cell_far (p := ⟨gb439, 0, none⟩) (by first | (rw [add_block]; exact hn440_0) | (show (Addr.add _ _).block ≠ _; rw [add_block]; exact hn440_0) | exact hn440_0) (.int .i64 ((rd_T47 y434 x13_1).f0))).trans hx440_0; replace hx440_1 := (cell_far (p := ⟨gb439, 0, none⟩) (by first | (rw [add_block]; exact hn440_0) | (show (Addr.add _ _).block ≠ _; rw [add_block]; exact hn440_0) | exact hn440_0) (.int .i64 ((rd_T47 y434 x13_1).f0))).trans hx440_1; replace hx440_2 := (cell_far (p := ⟨gb439, 0, none⟩) (by first | (rw [add_block]; exact hn440_0) | (show (Addr.add _ _).block ≠ _; rw [add_block]; exact hn440_0) | exact hn440_0) (.int .i64 ((rd_T47 y434 x13_1).f0))).trans hx440_2; replace hx440_0 := (cell_far (p := ⟨gb439, 1, none⟩) (by first | (rw [add_block]; exact hn440_1) | (show (Addr.add _ _).block ≠ _; rw [add_block]; exact hn440_1) | exact hn440_1) (.int .i64 ((rd_T47 y434 x13_1).f1))).trans hx440_0; replace hx440_1 := (cell_far (p := ⟨gb439, 1, none⟩) (by first | (rw [add_block]; exact hn440_1) | (show (Addr.add _ _).block ≠ _; rw [add_block]; exact hn440_1) | exact hn440_1) (.int .i64 ((rd_T47 y434 x13_1).f1))).trans hx440_1; replace hx440_2 := (cell_far (p := ⟨gb439, 1, none⟩) (by first | (rw [add_block]; exact hn440_1) | (show (Addr.add _ _).block ≠ _; rw [add_block]; exact hn440_1) | exact hn440_1) (.int .i64 ((rd_T47 y434 x13_1).f1))).trans hx440_2; replace hx440_0 := (cell_far (p := ⟨gb439, 2, none⟩) (by first | (rw [add_block]; exact hn440_2) | (show (Addr.add _ _).block ≠ _; rw [add_block]; exact hn440_2) | exact hn440_2) (.int .i64 ((rd_T47 y434 x13_1).f2))).trans hx440_0; replace hx440_1 := (cell_far (p := ⟨gb439, 2, none⟩) (by first | (rw [add_block]; exact hn440_2) | (show (Addr.add _ _).block ≠ _; rw [add_block]; exact hn440_2) | exact hn440_2) (.int .i64 ((rd_T47 y434 x13_1).f2))).trans hx440_1; replace hx440_2 := (cell_far (p := ⟨gb439, 2, none⟩) (by first | (rw [add_block]; exact hn440_2) | (show (Addr.add _ _).block ≠ _; rw [add_block]; exact hn440_2) | exact hn440_2) (.int .i64 ((rd_T47 y434 x13_1).f2))).trans hx440_2; (try have hy440_0 := fun (n_ : Nat) => (show (((((w17.drewN n_).setCell ⟨gb439, 0, none⟩ (.int .i64 ((rd_T47 y434 x13_1).f0))).setCell ⟨gb439, 1, none⟩ (.int .i64 ((rd_T47 y434 x13_1).f1))).setCell ⟨gb439, 2, none⟩ (.int .i64 ((rd_T47 y434 x13_1).f2)))).cell? _ = some _ from hx440_0)); (try have hy440_1 := fun (n_ : Nat) => (show (((((w17.drewN n_).setCell ⟨gb439, 0, none⟩ (.int .i64 ((rd_T47 y434 x13_1).f0))).setCell ⟨gb439, 1, none⟩ (.int .i64 ((rd_T47 y434 x13_1).f1))).setCell ⟨gb439, 2, none⟩ (.int .i64 ((rd_T47 y434 x13_1).f2)))).cell? _ = some _ from hx440_1)); (try have hy440_2 := fun (n_ : Nat) => (show (((((w17.drewN n_).setCell ⟨gb439, 0, none⟩ (.int .i64 ((rd_T47 y434 x13_1).f0))).setCell ⟨gb439, 1, none⟩ (.int .i64 ((rd_T47 y434 x13_1).f1))).setCell ⟨gb439, 2, none⟩ (.int .i64 ((rd_T47 y434 x13_1).f2)))).cell? _ = some _ from hx440_2)); clear hn440_0; clear hn440_1; clear hn440_2; replace p440 := eq_true p440; replace q440 := eq_true q440; have p441 : 0 ≤ (x13_1 : Int) := of_decide_eq_true (by first | (with_reducible assumption) | assumption); have q441 : x13_1 < (l1.length : Int) := of_decide_eq_true (by first | (with_reducible assumption) | assumption); obtain ⟨ad441, e441, hx441_0⟩ := Kd.at_int HR1.out x13_1 p441 q441; cases e441; have hn441_0 : ad441.block ≠ gb439 := Nat.ne_of_lt (Nat.lt_of_lt_of_le (by have := World.block_lt_of_cell? _ _ hx441_0; first | rwa [add_block] at this | exact this) GW439.out); have hn441_1 : ad441.block ≠ gb439 := Nat.ne_of_lt (Nat.lt_of_lt_of_le (by have := World.block_lt_of_cell? _ _ hx441_0; first | rwa [add_block] at this | exact this) GW439.out); have hn441_2 : ad441.block ≠ gb439 := Nat.ne_of_lt (Nat.lt_of_lt_of_le (by have := World.block_lt_of_cell? _ _ hx441_0; first | rwa [add_block] at this | exact this) GW439.out); replace hx441_0 := (HB.out.cell (World.block_lt_of_cell? w _ hx441_0)).trans hx441_0; replace hx441_0 := (cell_far (p := ⟨gb439, 0, none⟩) (by first | (rw [add_block]; exact hn441_0) | (show (Addr.add _ _).block ≠ _; rw [add_block]; exact hn441_0) | exact hn441_0) (.int .i64 ((rd_T47 y434 x13_1).f0))).trans hx441_0; replace hx441_0 := (cell_far (p := ⟨gb439, 1, none⟩) (by first | (rw [add_block]; exact hn441_1) | (show (Addr.add _ _).block ≠ _; rw [add_block]; exact hn441_1) | exact hn441_1) (.int .i64 ((rd_T47 y434 x13_1).f1))).trans hx441_0; replace hx441_0 := (cell_far (p := ⟨gb439, 2, none⟩) (by first | (rw [add_block]; exact hn441_2) | (show (Addr.add _ _).block ≠ _; rw [add_block]; exact hn441_2) | exact hn441_2) (.int .i64 ((rd_T47 y434 x13_1).f2))).trans hx441_0; (try have hy441_0 := fun (n_ : Nat) => (show (((((w17.drewN n_).setCell ⟨gb439, 0, none⟩ (.int .i64 ((rd_T47 y434 x13_1).f0))).setCell ⟨gb439, 1, none⟩ (.int .i64 ((rd_T47 y434 x13_1).f1))).setCell ⟨gb439, 2, none⟩ (.int .i64 ((rd_T47 y434 x13_1).f2)))).cell? _ = some _ from hx441_0)); clear hn441_0; clear hn441_1; clear hn441_2; replace p441 := eq_true p441; replace q441 := eq_true q441)))
                          go_roundg k1
                          case measure => have := HK1.out; omega
                          case rel => exact ⟨(wrap64 (x13_1 + 1)), (by first | rfl | (simp; done) | (simp [*]; done)), H', ⟨by have := HK1.out; omega⟩, ⟨by repeat (first | (with_reducible first | exact HB.out | apply below_alloc | apply pw_below_drewN | apply below_drew1 | refine below_set ?_ GE439.out) | exact HB.out)⟩⟩
                      · rw [if_neg c13] at H
                        exact absurd H (by simp)
                    · rw [if_neg c12] at H
                      have c12b0 : (((rd_T47 y434 x13_1).f0) == ((rd_T47 l0 a2).f0)) = false := beq_eq_false_iff_ne.mpr c12
                      have c12b1 : (((rd_T47 y434 x13_1).f0) != ((rd_T47 l0 a2).f0)) = true := bne_iff_ne.mpr c12
                      have H' := Aside0.mk H
                      clear H
                      have p438 : 0 ≤ (x13_1 : Int) := of_decide_eq_true (by first | (with_reducible assumption) | assumption)
                      have q438 : x13_1 < (y434.length : Int) := of_decide_eq_true (by first | (with_reducible assumption) | assumption)
                      obtain ⟨ad438, e438, hx438_0, hx438_1, hx438_2⟩ := at_T47 HR437.out x13_1 p438 q438
                      cases e438
                      replace hx438_0 := (HB.out.cell (World.block_lt_of_cell? w _ hx438_0)).trans hx438_0
                      replace hx438_1 := (HB.out.cell (World.block_lt_of_cell? w _ hx438_1)).trans hx438_1
                      replace hx438_2 := (HB.out.cell (World.block_lt_of_cell? w _ hx438_2)).trans hx438_2
                      replace p438 := eq_true p438
                      replace q438 := eq_true q438
                      go_wp2_with (first | ((with_reducible refine gate_dst (N := 8) rfl ?_); refine box_event ?hg (N := 8) ?hd (cs := #[.int .i64 0, .int .i64 0, .int .i64 0]) (t := 47) ?hr ?_; (case hd => rfl); (case hg => rfl); (case hr => first | (go_simp; done) | (go_simp; rfl)); intro gb439 hg w19 hbox hb; have n0_ := Aside0.mk (below_step (by repeat (first | (with_reducible first | exact HB.out | apply below_alloc | apply pw_below_drewN | apply below_drew1) | exact HB.out)) hb); have n1_ := Aside0.mk (hbox); have n2_ := Aside0.mk ((by rw [hg]; exact (below_size (by repeat (first | (with_reducible first | exact HB.out | apply below_alloc | apply pw_below_drewN | apply below_drew1) | exact HB.out))) : w.heap.size ≤ gb439)); have n3_ := Aside0.mk ((by rw [hg]; exact (below_size (by repeat (first | (with_reducible first | exact HB.out | apply below_alloc | apply pw_below_drewN | apply below_drew1) | exact HB.out))) : w.heap.size ≤ gb439)); clear HB; have HB := n0_; have BK439 := n1_; have GW439 := n2_; have GE439 := n3_; clear n0_ n1_ n2_ n3_; clear hb hbox hg; have hcz20_0 : w19.cell? ⟨gb439, 0, none⟩ = some (.int .i64 0) := (blk_cell BK439.out 0).trans rfl; have hcz20_1 : w19.cell? ⟨gb439, 1, none⟩ = some (.int .i64 0) := (blk_cell BK439.out 1).trans rfl; have hcz20_2 : w19.cell? ⟨gb439, 2, none⟩ = some (.int .i64 0) := (blk_cell BK439.out 2).trans rfl; have hfz20_0 := blk_frozen BK439.out 0; have hfz20_1 := blk_frozen BK439.out 1; have hfz20_2 := blk_frozen BK439.out 2; have p440 : 0 ≤ (a2 : Int) := of_decide_eq_true (by first | (with_reducible assumption) | assumption); have q440 : a2 < (l0.length : Int) := of_decide_eq_true (by first | (with_reducible assumption) | assumption); obtain ⟨ad440, e440, hx440_0, hx440_1, hx440_2⟩ := at_T47 HR0.out a2 p440 q440; obtain rfl : ad438 = ad440 := (by injection e440); have hn440_0 : ad438.block ≠ gb439 := Nat.ne_of_lt (Nat.lt_of_lt_of_le (by have := World.block_lt_of_cell? _ _ hx440_0; first | rwa [add_block] at this | exact this) GW439.out); have hn440_1 : ad438.block ≠ gb439 := Nat.ne_of_lt (Nat.lt_of_lt_of_le (by have := World.block_lt_of_cell? _ _ hx440_0; first | rwa [add_block] at this | exact this) GW439.out); have hn440_2 : ad438.block ≠ gb439 := Nat.ne_of_lt (Nat.lt_of_lt_of_le (by have := World.block_lt_of_cell? _ _ hx440_0; first | rwa [add_block] at this | exact this) GW439.out); replace hx440_0 := (HB.out.cell (World.block_lt_of_cell? w _ hx440_0)).trans hx440_0; replace hx440_1 := (HB.out.cell (World.block_lt_of_cell? w _ hx440_1)).trans hx440_1; replace hx440_2 := (HB.out.cell (World.block_lt_of_cell? w _ hx440_2)).trans hx440_2; replace hx440_0 := (cell_far (p := ⟨gb439, 0, none⟩) (by first | (rw [add_block]; exact hn440_0) | (show (Addr.add _ _).block ≠ _; rw [add_block]; exact hn440_0) | exact hn440_0) (.int .i64 ((rd_T47 y434 x13_1).f0))).trans hx440_0; replace hx440_1 := (cell_far (p := ⟨gb439, 0, none⟩) (by first | (rw [add_block]; exact hn440_0) | (show (Addr.add _ _).block ≠ _; rw [add_block]; exact hn440_0) | exact hn440_0) (.int .i64 ((rd_T47 y434 x13_1).f0))).trans hx440_1; replace hx440_2 := (cell_far (p := ⟨gb439, 0, none⟩) (by first | (rw [add_block]; exact hn440_0) | (show (Addr.add _ _).block ≠ _; rw [add_block]; exact hn440_0) | exact hn440_0) (.int .i64 ((rd_T47 y434 x13_1).f0))).trans hx440_2; replace hx440_0 := (cell_far (p := ⟨gb439, 1, none⟩) (by first | (rw [add_block]; exact hn440_1) | (show (Addr.add _ _).block ≠ _; rw [add_block]; exact hn440_1) | exact hn440_1) (.int .i64 ((rd_T47 y434 x13_1).f1))).trans hx440_0; replace hx440_1 := (cell_far (p := ⟨gb439, 1, none⟩) (by first | (rw [add_block]; exact hn440_1) | (show (Addr.add _ _).block ≠ _; rw [add_block]; exact hn440_1) | exact hn440_1) (.int .i64 ((rd_T47 y434 x13_1).f1))).trans hx440_1; replace hx440_2 := (cell_far (p := ⟨gb439, 1, none⟩) (by first | (rw [add_block]; exact hn440_1) | (show (Addr.add _ _).block ≠ _; rw [add_block]; exact hn440_1) | exact hn440_1) (.int .i64 ((rd_T47 y434 x13_1).f1))).trans hx440_2; replace hx440_0 := (cell_far (p := ⟨gb439, 2, none⟩) (by first | (rw [add_block]; exact hn440_2) | (show (Addr.add _ _).block ≠ _; rw [add_block]; exact hn440_2) | exact hn440_2) (.int .i64 ((rd_T47 y434 x13_1).f2))).trans hx440_0; replace hx440_1 := (cell_far (p := ⟨gb439, 2, none⟩) (by first | (rw [add_block]; exact hn440_2) | (show (Addr.add _ _).block ≠ _; rw [add_block]; exact hn440_2) | exact hn440_2) (.int .i64 ((rd_T47 y434 x13_1).f2))).trans hx440_1; replace hx440_2 := (cell_far (p := ⟨gb439, 2, none⟩) (by first | (rw [add_block]; exact hn440_2) | (show (Addr.add _ _).block ≠ _; rw [add_block]; exact hn440_2) | exact hn440_2) (.int .i64 ((rd_T47 y434 x13_1).f2))).trans hx440_2; (try have hy440_0 := fun (n_ : Nat) => (show (((((w19.drewN n_).setCell ⟨gb439, 0, none⟩ (.int .i64 ((rd_T47 y434 x13_1).f0))).setCell ⟨gb439, 1, none⟩ (.int .i64 ((rd_T47 y434 x13_1).f1))).setCell ⟨gb439, 2, none⟩ (.int .i64 ((rd_T47 y434 x13_1).f2)))).cell? _ = some _ from hx440_0)); (try have hy440_1 := fun (n_ : Nat) => (show (((((w19.drewN n_).setCell ⟨gb439, 0, none⟩ (.int .i64 ((rd_T47 y434 x13_1).f0))).setCell ⟨gb439, 1, none⟩ (.int .i64 ((rd_T47 y434 x13_1).f1))).setCell ⟨gb439, 2, none⟩ (.int .i64 ((rd_T47 y434 x13_1).f2)))).cell? _ = some _ from hx440_1)); (try have hy440_2 := fun (n_ : Nat) => (show (((((w19.drewN n_).setCell ⟨gb439, 0, none⟩ (.int .i64 ((rd_T47 y434 x13_1).f0))).setCell ⟨gb439, 1, none⟩ (.int .i64 ((rd_T47 y434 x13_1).f1))).setCell ⟨gb439, 2, none⟩ (.int .i64 ((rd_T47 y434 x13_1).f2)))).cell? _ = some _ from hx440_2)); clear hn440_0; clear hn440_1; clear hn440_2; replace p440 := eq_true p440; replace q440 := eq_true q440))
                      repeat (go_quiet (first | ((with_reducible refine gate_dst (N := 8) rfl ?_); refine box_event ?hg (N := 8) ?hd (cs := #[.int .i64 0, .int .i64 0, .int .i64 0]) (t := 47) ?hr ?_; (case hd => rfl); (case hg => rfl); (case hr => first | (go_simp; done) | (go_simp; rfl)); intro gb439 hg w19 hbox hb; have n0_ := Aside0.mk (below_step (by repeat (first | (with_reducible first | exact HB.out | apply below_alloc | apply pw_below_drewN | apply below_drew1) | exact HB.out)) hb); have n1_ := Aside0.mk (hbox); have n2_ := Aside0.mk ((by rw [hg]; exact (below_size (by repeat (first | (with_reducible first | exact HB.out | apply below_alloc | apply pw_below_drewN | apply below_drew1) | exact HB.out))) : w.heap.size ≤ gb439)); have n3_ := Aside0.mk ((by rw [hg]; exact (below_size (by repeat (first | (with_reducible first | exact HB.out | apply below_alloc | apply pw_below_drewN | apply below_drew1) | exact HB.out))) : w.heap.size ≤ gb439)); clear HB; have HB := n0_; have BK439 := n1_; have GW439 := n2_; have GE439 := n3_; clear n0_ n1_ n2_ n3_; clear hb hbox hg; have hcz20_0 : w19.cell? ⟨gb439, 0, none⟩ = some (.int .i64 0) := (blk_cell BK439.out 0).trans rfl; have hcz20_1 : w19.cell? ⟨gb439, 1, none⟩ = some (.int .i64 0) := (blk_cell BK439.out 1).trans rfl; have hcz20_2 : w19.cell? ⟨gb439, 2, none⟩ = some (.int .i64 0) := (blk_cell BK439.out 2).trans rfl; have hfz20_0 := blk_frozen BK439.out 0; have hfz20_1 := blk_frozen BK439.out 1; have hfz20_2 := blk_frozen BK439.out 2; have p440 : 0 ≤ (a2 : Int) := of_decide_eq_true (by first | (with_reducible assumption) | assumption); have q440 : a2 < (l0.length : Int) := of_decide_eq_true (by first | (with_reducible assumption) | assumption); obtain ⟨ad440, e440, hx440_0, hx440_1, hx440_2⟩ := at_T47 HR0.out a2 p440 q440; obtain rfl : ad438 = ad440 := (by injection e440); have hn440_0 : ad438.block ≠ gb439 := Nat.ne_of_lt (Nat.lt_of_lt_of_le (by have := World.block_lt_of_cell? _ _ hx440_0; first | rwa [add_block] at this | exact this) GW439.out); have hn440_1 : ad438.block ≠ gb439 := Nat.ne_of_lt (Nat.lt_of_lt_of_le (by have := World.block_lt_of_cell? _ _ hx440_0; first | rwa [add_block] at this | exact this) GW439.out); have hn440_2 : ad438.block ≠ gb439 := Nat.ne_of_lt (Nat.lt_of_lt_of_le (by have := World.block_lt_of_cell? _ _ hx440_0; first | rwa [add_block] at this | exact this) GW439.out); replace hx440_0 := (HB.out.cell (World.block_lt_of_cell? w _ hx440_0)).trans hx440_0; replace hx440_1 := (HB.out.cell (World.block_lt_of_cell? w _ hx440_1)).trans hx440_1; replace hx440_2 := (HB.out.cell (World.block_lt_of_cell? w _ hx440_2)).trans hx440_2; replace hx440_0 := (cell_far (p := ⟨gb439, 0, none⟩) (by first | (rw [add_block]; exact hn440_0) | (show (Addr.add _ _).block ≠ _; rw [add_block]; exact hn440_0) | exact hn440_0) (.int .i64 ((rd_T47 y434 x13_1).f0))).trans hx440_0; replace hx440_1 := (cell_far (p := ⟨gb439, 0, none⟩) (by first | (rw [add_block]; exact hn440_0) | (show (Addr.add _ _).block ≠ _; rw [add_block]; exact hn440_0) | exact hn440_0) (.int .i64 ((rd_T47 y434 x13_1).f0))).trans hx440_1; replace hx440_2 := (cell_far (p := ⟨gb439, 0, none⟩) (by first | (rw [add_block]; exact hn440_0) | (show (Addr.add _ _).block ≠ _; rw [add_block]; exact hn440_0) | exact hn440_0) (.int .i64 ((rd_T47 y434 x13_1).f0))).trans hx440_2; replace hx440_0 := (cell_far (p := ⟨gb439, 1, none⟩) (by first | (rw [add_block]; exact hn440_1) | (show (Addr.add _ _).block ≠ _; rw [add_block]; exact hn440_1) | exact hn440_1) (.int .i64 ((rd_T47 y434 x13_1).f1))).trans hx440_0; replace hx440_1 := (cell_far (p := ⟨gb439, 1, none⟩) (by first | (rw [add_block]; exact hn440_1) | (show (Addr.add _ _).block ≠ _; rw [add_block]; exact hn440_1) | exact hn440_1) (.int .i64 ((rd_T47 y434 x13_1).f1))).trans hx440_1; replace hx440_2 := (cell_far (p := ⟨gb439, 1, none⟩) (by first | (rw [add_block]; exact hn440_1) | (show (Addr.add _ _).block ≠ _; rw [add_block]; exact hn440_1) | exact hn440_1) (.int .i64 ((rd_T47 y434 x13_1).f1))).trans hx440_2; replace hx440_0 := (cell_far (p := ⟨gb439, 2, none⟩) (by first | (rw [add_block]; exact hn440_2) | (show (Addr.add _ _).block ≠ _; rw [add_block]; exact hn440_2) | exact hn440_2) (.int .i64 ((rd_T47 y434 x13_1).f2))).trans hx440_0; replace hx440_1 := (cell_far (p := ⟨gb439, 2, none⟩) (by first | (rw [add_block]; exact hn440_2) | (show (Addr.add _ _).block ≠ _; rw [add_block]; exact hn440_2) | exact hn440_2) (.int .i64 ((rd_T47 y434 x13_1).f2))).trans hx440_1; replace hx440_2 := (cell_far (p := ⟨gb439, 2, none⟩) (by first | (rw [add_block]; exact hn440_2) | (show (Addr.add _ _).block ≠ _; rw [add_block]; exact hn440_2) | exact hn440_2) (.int .i64 ((rd_T47 y434 x13_1).f2))).trans hx440_2; (try have hy440_0 := fun (n_ : Nat) => (show (((((w19.drewN n_).setCell ⟨gb439, 0, none⟩ (.int .i64 ((rd_T47 y434 x13_1).f0))).setCell ⟨gb439, 1, none⟩ (.int .i64 ((rd_T47 y434 x13_1).f1))).setCell ⟨gb439, 2, none⟩ (.int .i64 ((rd_T47 y434 x13_1).f2)))).cell? _ = some _ from hx440_0)); (try have hy440_1 := fun (n_ : Nat) => (show (((((w19.drewN n_).setCell ⟨gb439, 0, none⟩ (.int .i64 ((rd_T47 y434 x13_1).f0))).setCell ⟨gb439, 1, none⟩ (.int .i64 ((rd_T47 y434 x13_1).f1))).setCell ⟨gb439, 2, none⟩ (.int .i64 ((rd_T47 y434 x13_1).f2)))).cell? _ = some _ from hx440_1)); (try have hy440_2 := fun (n_ : Nat) => (show (((((w19.drewN n_).setCell ⟨gb439, 0, none⟩ (.int .i64 ((rd_T47 y434 x13_1).f0))).setCell ⟨gb439, 1, none⟩ (.int .i64 ((rd_T47 y434 x13_1).f1))).setCell ⟨gb439, 2, none⟩ (.int .i64 ((rd_T47 y434 x13_1).f2)))).cell? _ = some _ from hx440_2)); clear hn440_0; clear hn440_1; clear hn440_2; replace p440 := eq_true p440; replace q440 := eq_true q440)); try go_wp2_with (first | ((with_reducible refine gate_dst (N := 8) rfl ?_); refine box_event ?hg (N := 8) ?hd (cs := #[.int .i64 0, .int .i64 0, .int .i64 0]) (t := 47) ?hr ?_; (case hd => rfl); (case hg => rfl); (case hr => first | (go_simp; done) | (go_simp; rfl)); intro gb439 hg w19 hbox hb; have n0_ := Aside0.mk (below_step (by repeat (first | (with_reducible first | exact HB.out | apply below_alloc | apply pw_below_drewN | apply below_drew1) | exact HB.out)) hb); have n1_ := Aside0.mk (hbox); have n2_ := Aside0.mk ((by rw [hg]; exact (below_size (by repeat (first | (with_reducible first | exact HB.out | apply below_alloc | apply pw_below_drewN | apply below_drew1) | exact HB.out))) : w.heap.size ≤ gb439)); have n3_ := Aside0.mk ((by rw [hg]; exact (below_size (by repeat (first | (with_reducible first | exact HB.out | apply below_alloc | apply pw_below_drewN | apply below_drew1) | exact HB.out))) : w.heap.size ≤ gb439)); clear HB; have HB := n0_; have BK439 := n1_; have GW439 := n2_; have GE439 := n3_; clear n0_ n1_ n2_ n3_; clear hb hbox hg; have hcz20_0 : w19.cell? ⟨gb439, 0, none⟩ = some (.int .i64 0) := (blk_cell BK439.out 0).trans rfl; have hcz20_1 : w19.cell? ⟨gb439, 1, none⟩ = some (.int .i64 0) := (blk_cell BK439.out 1).trans rfl; have hcz20_2 : w19.cell? ⟨gb439, 2, none⟩ = some (.int .i64 0) := (blk_cell BK439.out 2).trans rfl; have hfz20_0 := blk_frozen BK439.out 0; have hfz20_1 := blk_frozen BK439.out 1; have hfz20_2 := blk_frozen BK439.out 2; have p440 : 0 ≤ (a2 : Int) := of_decide_eq_true (by first | (with_reducible assumption) | assumption); have q440 : a2 < (l0.length : Int) := of_decide_eq_true (by first | (with_reducible assumption) | assumption); obtain ⟨ad440, e440, hx440_0, hx440_1, hx440_2⟩ := at_T47 HR0.out a2 p440 q440; obtain rfl : ad438 = ad440 := (by injection e440); have hn440_0 : ad438.block ≠ gb439 := Nat.ne_of_lt (Nat.lt_of_lt_of_le (by have := World.block_lt_of_cell? _ _ hx440_0; first | rwa [add_block] at this | exact this) GW439.out); have hn440_1 : ad438.block ≠ gb439 := Nat.ne_of_lt (Nat.lt_of_lt_of_le (by have := World.block_lt_of_cell? _ _ hx440_0; first | rwa [add_block] at this | exact this) GW439.out); have hn440_2 : ad438.block ≠ gb439 := Nat.ne_of_lt (Nat.lt_of_lt_of_le (by have := World.block_lt_of_cell? _ _ hx440_0; first | rwa [add_block] at this | exact this) GW439.out); replace hx440_0 := (HB.out.cell (World.block_lt_of_cell? w _ hx440_0)).trans hx440_0; replace hx440_1 := (HB.out.cell (World.block_lt_of_cell? w _ hx440_1)).trans hx440_1; replace hx440_2 := (HB.out.cell (World.block_lt_of_cell? w _ hx440_2)).trans hx440_2; replace hx440_0 := (cell_far (p := ⟨gb439, 0, none⟩) (by first | (rw [add_block]; exact hn440_0) | (show (Addr.add _ _).block ≠ _; rw [add_block]; exact hn440_0) | exact hn440_0) (.int .i64 ((rd_T47 y434 x13_1).f0))).trans hx440_0; replace hx440_1 := (cell_far (p := ⟨gb439, 0, none⟩) (by first | (rw [add_block]; exact hn440_0) | (show (Addr.add _ _).block ≠ _; rw [add_block]; exact hn440_0) | exact hn440_0) (.int .i64 ((rd_T47 y434 x13_1).f0))).trans hx440_1; replace hx440_2 := (cell_far (p := ⟨gb439, 0, none⟩) (by first | (rw [add_block]; exact hn440_0) | (show (Addr.add _ _).block ≠ _; rw [add_block]; exact hn440_0) | exact hn440_0) (.int .i64 ((rd_T47 y434 x13_1).f0))).trans hx440_2; replace hx440_0 := (cell_far (p := ⟨gb439, 1, none⟩) (by first | (rw [add_block]; exact hn440_1) | (show (Addr.add _ _).block ≠ _; rw [add_block]; exact hn440_1) | exact hn440_1) (.int .i64 ((rd_T47 y434 x13_1).f1))).trans hx440_0; replace hx440_1 := (cell_far (p := ⟨gb439, 1, none⟩) (by first | (rw [add_block]; exact hn440_1) | (show (Addr.add _ _).block ≠ _; rw [add_block]; exact hn440_1) | exact hn440_1) (.int .i64 ((rd_T47 y434 x13_1).f1))).trans hx440_1; replace hx440_2 := (cell_far (p := ⟨gb439, 1, none⟩) (by first | (rw [add_block]; exact hn440_1) | (show (Addr.add _ _).block ≠ _; rw [add_block]; exact hn440_1) | exact hn440_1) (.int .i64 ((rd_T47 y434 x13_1).f1))).trans hx440_2; replace hx440_0 := (cell_far (p := ⟨gb439, 2, none⟩) (by first | (rw [add_block]; exact hn440_2) | (show (Addr.add _ _).block ≠ _; rw [add_block]; exact hn440_2) | exact hn440_2) (.int .i64 ((rd_T47 y434 x13_1).f2))).trans hx440_0; replace hx440_1 := (cell_far (p := ⟨gb439, 2, none⟩) (by first | (rw [add_block]; exact hn440_2) | (show (Addr.add _ _).block ≠ _; rw [add_block]; exact hn440_2) | exact hn440_2) (.int .i64 ((rd_T47 y434 x13_1).f2))).trans hx440_1; replace hx440_2 := (cell_far (p := ⟨gb439, 2, none⟩) (by first | (rw [add_block]; exact hn440_2) | (show (Addr.add _ _).block ≠ _; rw [add_block]; exact hn440_2) | exact hn440_2) (.int .i64 ((rd_T47 y434 x13_1).f2))).trans hx440_2; (try have hy440_0 := fun (n_ : Nat) => (show (((((w19.drewN n_).setCell ⟨gb439, 0, none⟩ (.int .i64 ((rd_T47 y434 x13_1).f0))).setCell ⟨gb439, 1, none⟩ (.int .i64 ((rd_T47 y434 x13_1).f1))).setCell ⟨gb439, 2, none⟩ (.int .i64 ((rd_T47 y434 x13_1).f2)))).cell? _ = some _ from hx440_0)); (try have hy440_1 := fun (n_ : Nat) => (show (((((w19.drewN n_).setCell ⟨gb439, 0, none⟩ (.int .i64 ((rd_T47 y434 x13_1).f0))).setCell ⟨gb439, 1, none⟩ (.int .i64 ((rd_T47 y434 x13_1).f1))).setCell ⟨gb439, 2, none⟩ (.int .i64 ((rd_T47 y434 x13_1).f2)))).cell? _ = some _ from hx440_1)); (try have hy440_2 := fun (n_ : Nat) => (show (((((w19.drewN n_).setCell ⟨gb439, 0, none⟩ (.int .i64 ((rd_T47 y434 x13_1).f0))).setCell ⟨gb439, 1, none⟩ (.int .i64 ((rd_T47 y434 x13_1).f1))).setCell ⟨gb439, 2, none⟩ (.int .i64 ((rd_T47 y434 x13_1).f2)))).cell? _ = some _ from hx440_2)); clear hn440_0; clear hn440_1; clear hn440_2; replace p440 := eq_true p440; replace q440 := eq_true q440)))
                      go_roundg k1
                      case measure => have := HK1.out; omega
                      case rel => exact ⟨(wrap64 (x13_1 + 1)), (by first | rfl | (simp; done) | (simp [*]; done)), H', ⟨by have := HK1.out; omega⟩, ⟨by repeat (first | (with_reducible first | exact HB.out | apply below_alloc | apply pw_below_drewN | apply below_drew1 | refine below_set ?_ GE439.out) | exact HB.out)⟩⟩
                  · rw [if_neg c11] at H
                    exact absurd H (by simp)
                · rw [if_neg c10] at H
                  exact absurd H (by simp)
              · rw [if_neg c9] at H
                exact absurd H (by simp)
            · rw [if_neg c8] at H
              exact absurd H (by simp)
          · rw [if_neg c7] at H
            have c7b0 : decide (x13_1 < (y434.length : Int)) = false := decide_eq_false c7
            clear c7
            obtain rfl := Option.some.inj H
            go_wp2
            repeat (go_quiet (fail); try go_wp2)
            go_ret
            exact ⟨by first | rfl | (simp [errW_none, errW_some] <;> rfl) | (simp [*, errW_none, errW_some] <;> rfl), by repeat (first | (with_reducible first | exact HB.out | apply below_alloc | apply pw_below_drewN | apply below_drew1) | exact HB.out)⟩
    · rw [if_neg c5] at H
      exact absurd H (by simp)
  · rw [if_neg c4] at H
    exact absurd H (by simp)
end Go.Proofs.Ytbnkiikpolcpkaa.PU

namespace Go.Proofs.Ytbnkiikpolcpkaa.PU
open Go.RowKit Go.Proofs.YtbnkiikpolcpkaaW.PrintWords Go.Proofs.YtbnkiikpolcpkaaW.PrintLast Go.Proofs.YtbnkiikpolcpkaaW.PrintMore
attribute [local go_sem] max2_int min2_int max_two min_two max_three min_three max_four min_four   -- for this text's walks alone
set_option linter.unusedVariables false
set_option linter.unusedSimpArgs false
mutual
def impl_LotOk.j0 : Nat → List (S47) → List Int → Bool → Option (Bool)
  | 0, _, _, _ => none
  | k + 1, x1, x2, x26 => if x26 = true then (some false) else (impl_LotOk.l0 k x1 x2 x2 (x2.length : Int) 0)
def impl_LotOk.l0 : Nat → List (S47) → List Int → List Int → Int → Int → Option (Bool)
  | 0, _, _, _, _, _ => none
  | k + 1, x1, x2, x27, x28, x29 => if x29 < x28 then (if 0 ≤ x29 then (if x29 < (x27.length : Int) then (if (rd x27 x29) = 1 then ((impl_isFirst.f k x1 x2 x29).bind fun t449 => (if t449 = true then (impl_LotOk.l0 k x1 x2 x27 x28 (wrap64 (x29 + 1))) else (some false))) else (impl_LotOk.l0 k x1 x2 x27 x28 (wrap64 (x29 + 1)))) else (none)) else (none)) else (some true)
end
def impl_LotOk.f (k : Nat) (l0 : List Int) (l1 : List (S47)) (l2 : List Int) : Option (Bool) := (impl_areWaits.f k l0 l1).bind fun t442 => (if t442 = true then ((impl_isLot.f l1 l2).bind fun t443 => (if t443 = true then ((impl_afterLot.f k l0 l1 l2).bind fun t444 => ((slices_Min_int_int.f k t444).bind fun t447 => (impl_LotOk.j0 k l1 l2 (decide (t447 < 0))))) else (impl_LotOk.j0 k l1 l2 true))) else (impl_LotOk.j0 k l1 l2 true))
end Go.Proofs.Ytbnkiikpolcpkaa.PU

namespace Go.Proofs.Ytbnkiikpolcpkaa.PU
open Go.RowKit Go.Proofs.YtbnkiikpolcpkaaW.PrintWords Go.Proofs.YtbnkiikpolcpkaaW.PrintLast Go.Proofs.YtbnkiikpolcpkaaW.PrintMore
attribute [local go_sem] max2_int min2_int max_two min_two max_three min_three max_four min_four   -- for this text's walks alone
set_option linter.unusedVariables false
set_option linter.unusedSimpArgs false
def spec_l8Lot.l0 : Nat → List (S47) → List Int → Int → Option (Bool)
  | 0, _, _, _ => none
  | k + 1, x0, x1, x5 => if x5 < (x1.length : Int) then (if 0 ≤ x5 then ((spec_l1In.f (rd x1 x5) 0 1).bind fun t256 => (if t256 = true then (spec_l8Lot.l0 k x0 x1 (wrap64 (x5 + 1))) else (some false))) else (none)) else (some ((x1.length : Int) == (x0.length : Int)))
def spec_l8Lot.f (k : Nat) (l0 : List (S47)) (l1 : List Int) : Option (Bool) := spec_l8Lot.l0 k l0 l1 0
end Go.Proofs.Ytbnkiikpolcpkaa.PU

namespace Go.Proofs.Ytbnkiikpolcpkaa.PU
open Go.RowKit Go.Proofs.YtbnkiikpolcpkaaW.PrintWords Go.Proofs.YtbnkiikpolcpkaaW.PrintLast Go.Proofs.YtbnkiikpolcpkaaW.PrintMore
attribute [local go_sem] max2_int min2_int max_two min_two max_three min_three max_four min_four   -- for this text's walks alone
set_option linter.unusedVariables false
set_option linter.unusedSimpArgs false
mutual
def spec_LotOk.j0 : Nat → List Int → List (S47) → List Int → Bool → Option (Bool)
  | 0, _, _, _, _ => none
  | k + 1, x0, x1, x2, x20 => if x20 = true then (some false) else ((spec_l8After.f k x0 x1 x2).bind fun t424 => (spec_LotOk.l0 k x1 x2 t424 0))
def spec_LotOk.l0 : Nat → List (S47) → List Int → List Int → Int → Option (Bool)
  | 0, _, _, _, _ => none
  | k + 1, x1, x2, x7, x8 => if x8 < (x7.length : Int) then (if 0 ≤ x8 then (if (rd x7 x8) < 0 then (some false) else (spec_LotOk.l0 k x1 x2 x7 (wrap64 (x8 + 1)))) else (none)) else (spec_LotOk.l1 k x1 x2 0)
def spec_LotOk.l1 : Nat → List (S47) → List Int → Int → Option (Bool)
  | 0, _, _, _ => none
  | k + 1, x1, x2, x9 => if x9 < (x1.length : Int) then (spec_LotOk.l2 k x1 x2 x9 0) else (some true)
def spec_LotOk.l2 : Nat → List (S47) → List Int → Int → Int → Option (Bool)
  | 0, _, _, _, _ => none
  | k + 1, x1, x2, x9, x10 => if x10 < x9 then (if 0 ≤ x9 then (if x9 < (x2.length : Int) then (if (rd x2 x9) = 1 then (if 0 ≤ x10 then (if x10 < (x2.length : Int) then (if (rd x2 x10) = 0 then (if x10 < (x1.length : Int) then (if x9 < (x1.length : Int) then (if ((rd_T47 x1 x10).f0) = ((rd_T47 x1 x9).f0) then (some false) else (spec_LotOk.l2 k x1 x2 x9 (wrap64 (x10 + 1)))) else (none)) else (none)) else (spec_LotOk.l2 k x1 x2 x9 (wrap64 (x10 + 1)))) else (none)) else (none)) else (spec_LotOk.l2 k x1 x2 x9 (wrap64 (x10 + 1)))) else (none)) else (none)) else (spec_LotOk.l1 k x1 x2 (wrap64 (x9 + 1)))
end
def spec_LotOk.f (k : Nat) (l0 : List Int) (l1 : List (S47)) (l2 : List Int) : Option (Bool) := (spec_WaitsOk.f k l0 l1).bind fun t422 => (if t422 = true then ((spec_l8Lot.f k l1 l2).bind fun t423 => (spec_LotOk.j0 k l0 l1 l2 (!t423))) else (spec_LotOk.j0 k l0 l1 l2 true))
end Go.Proofs.Ytbnkiikpolcpkaa.PU

namespace Go.Proofs.Ytbnkiikpolcpkaa.PU
open Go.RowKit Go.Proofs.YtbnkiikpolcpkaaW.PrintWords Go.Proofs.YtbnkiikpolcpkaaW.PrintLast Go.Proofs.YtbnkiikpolcpkaaW.PrintMore
attribute [local go_sem] max2_int min2_int max_two min_two max_three min_three max_four min_four   -- for this text's walks alone
set_option linter.unusedVariables false
set_option linter.unusedSimpArgs false
def IndexFunc_greatestLot1.idx (p : Int → Bool) : List Int → Nat → Int
  | [], _ => -1
  | x :: r, i => if p x = true then (i : Int) else IndexFunc_greatestLot1.idx p r (i + 1)
def IndexFunc_greatestLot1.f (l0 : List Int) : Option (Int) := some (IndexFunc_greatestLot1.idx (fun x => decide (x < 0)) l0 0)
theorem IndexFunc_greatestLot1.lit (x : Int) (w : World) : Calls Try.prog 66 #[.int .i64 x] w fun e w' => e = .returned (.bool (decide (x < 0))) ∧ w' = w := by
  go_enter Try.func66, Try.ntmps66
  go_wp2
  go_ret
  exact ⟨rfl, rfl⟩
set_option maxHeartbeats 1000000 in
set_option maxRecDepth 100000 in
theorem IndexFunc_greatestLot1.calls (A0 : Option Addr) (c0 : Nat) (l0 : List Int) (r : Int) (w : World) (hr0 : Kd.C (Kd.int .i64) w A0 l0.length l0) (hc0 : l0.length ≤ c0) (h : IndexFunc_greatestLot1.f l0 = some r) :
    Calls Try.prog 65 #[.slice A0 l0.length c0, .func (.func 66) #[] #[]] w fun e w' => e = .returned (.int .i64 r) ∧ Drawn0 w w' := by
  have hn : l0.length ≤ 9223372036854775807 := hr0.2.1
  have HR0 := Aside0.mk hr0
  clear hr0
  have H := Aside0.mk (Option.some.inj h)
  clear h
  generalize hN : l0.length = n at *
  have HN := Aside0.mk hN
  clear hN
  go_enter Try.func65, Try.ntmps65
  go_wp2_with fail
  go_loop [5, 8] (fun _ i => ∃ j : Nat, j ≤ n ∧ i = .int .i64 j ∧ Aside0 (IndexFunc_greatestLot1.idx (fun x => decide (x < 0)) (l0.drop j) j = r)) (fun _ i => n - (Go.RowKit.intOf i).toNat)
  case atStart => exact ⟨0, Nat.zero_le _, rfl, ⟨H.out⟩⟩
  case round =>
    obtain ⟨j, hj, rfl, HA⟩ := hrel
    by_cases hlt : j < n
    · have hlt2 : j < l0.length := by rw [HN.out]; exact hlt
      have hd : l0.drop j = rd l0 (j : Int) :: l0.drop (j + 1) := by
        rw [List.drop_eq_getElem_cons hlt2]; simp [rd, List.getD_eq_getElem?_getD, List.getElem?_eq_getElem hlt2]
      have HX : Aside0 ((if (fun x : Int => decide (x < 0)) (rd l0 (j : Int)) = true then (j : Int) else IndexFunc_greatestLot1.idx (fun x => decide (x < 0)) (l0.drop (j + 1)) (j + 1)) = r) := ⟨by have := HA.out; rw [hd] at this; exact this⟩
      obtain ⟨ad, e, hx⟩ := Kd.at_int HR0.out (j : Int) (by omega) (by omega)
      cases e
      have hx' : w.cell? (ad.add j) = some (.int .i64 (rd l0 (j : Int))) := by simpa using hx
      generalize rd l0 (j : Int) = y at hx hx' HX
      clear hd hlt2 HA hx
      by_cases hy : (fun x : Int => decide (x < 0)) y = true
      · have hr : Aside0 ((j : Int) = r) := ⟨by have := HX.out; rw [if_pos hy] at this; exact this⟩
        have hy2 : Aside0 (((fun x : Int => decide (x < 0)) y) = true) := ⟨hy⟩
        clear HX hy
        go_wp2_with (go_at_call 66; refine (IndexFunc_greatestLot1.lit y _).mono ?_; rintro e w' ⟨rfl, rfl⟩; rw [show (decide (y < 0)) = true from hy2.out])
        go_ret
        exact ⟨by rw [← hr.out]; rfl, by repeat (first | exact Drawn0.refl _ | apply Drawn0.step)⟩
      · have hr : Aside0 (IndexFunc_greatestLot1.idx (fun x => decide (x < 0)) (l0.drop (j + 1)) (j + 1) = r) := ⟨by have := HX.out; rw [if_neg hy] at this; exact this⟩
        have hy2 : Aside0 (((fun x : Int => decide (x < 0)) y) = false) := ⟨by simpa using hy⟩
        clear HX hy
        go_wp2_with (go_at_call 66; refine (IndexFunc_greatestLot1.lit y _).mono ?_; rintro e w' ⟨rfl, rfl⟩; rw [show (decide (y < 0)) = false from hy2.out])
        go_round
        case rel => exact ⟨j + 1, by omega, by go_num, hr⟩
        case measure => simp [Go.RowKit.intOf]; omega
    · obtain rfl : j = n := by omega
      have hr : Aside0 ((-1 : Int) = r) := ⟨by have := HA.out; rw [List.drop_of_length_le (by rw [HN.out]; exact Nat.le_refl _)] at this; exact this⟩
      clear HA
      go_wp2_with fail
      go_ret
      exact ⟨by rw [← hr.out]; rfl, by repeat (first | exact Drawn0.refl _ | apply Drawn0.step)⟩
end Go.Proofs.Ytbnkiikpolcpkaa.PU

namespace Go.Proofs.Ytbnkiikpolcpkaa.PU
open Go.RowKit Go.Proofs.YtbnkiikpolcpkaaW.PrintWords Go.Proofs.YtbnkiikpolcpkaaW.PrintLast Go.Proofs.YtbnkiikpolcpkaaW.PrintMore
attribute [local go_sem] max2_int min2_int max_two min_two max_three min_three max_four min_four   -- for this text's walks alone
set_option linter.unusedVariables false
set_option linter.unusedSimpArgs false
mutual
def impl_greatestLot.l0 : Nat → List Int → List (S47) → List Int → Int → Int → Option (List Int)
  | 0, _, _, _, _, _ => none
  | k + 1, x0, x1, x5, x10, x11 => if x11 < x10 then (if x5.length < 17592186044416 then (impl_greatestLot.l0 k x0 x1 (x5 ++ [1]) x10 (wrap64 (x11 + 1))) else (none)) else (impl_greatestLot.l1 k x0 x1 x5)
def impl_greatestLot.l1 : Nat → List Int → List (S47) → List Int → Option (List Int)
  | 0, _, _, _ => none
  | k + 1, x0, x1, x5 => (impl_afterLot.f k x0 x1 x5).bind fun t545 => ((IndexFunc_greatestLot1.f t545).bind fun t548 => (if t548 < 0 then (some x5) else (impl_greatestLot.l2 k x0 x1 x5 t548 (wrap64 ((x1.length : Int) - 1)))))
def impl_greatestLot.l2 : Nat → List Int → List (S47) → List Int → Int → Int → Option (List Int)
  | 0, _, _, _, _, _ => none
  | k + 1, x0, x1, x5, x6, x7 => if x7 ≥ 0 then (if 0 ≤ x7 then (if x7 < (x1.length : Int) then (if ((rd_T47 x1 x7).f0) = x6 then (if x7 < (x5.length : Int) then (if (rd x5 x7) = 1 then (impl_greatestLot.l1 k x0 x1 (x5.set (x7 : Int).toNat 0)) else (impl_greatestLot.l2 k x0 x1 x5 x6 (wrap64 (x7 - 1)))) else (none)) else (impl_greatestLot.l2 k x0 x1 x5 x6 (wrap64 (x7 - 1)))) else (none)) else (none)) else (impl_greatestLot.l1 k x0 x1 x5)
end
def impl_greatestLot.f (k : Nat) (l0 : List Int) (l1 : List (S47)) : Option (List Int) := impl_greatestLot.l0 k l0 l1 (([] : List Int)) (l1.length : Int) 0
theorem impl_greatestLot.mono_l : ∀ k, (∀ y0 y1 y2 y3 y4, LeO (impl_greatestLot.l0 k y0 y1 y2 y3 y4) (impl_greatestLot.l0 (k + 1) y0 y1 y2 y3 y4)) ∧ (∀ y0 y1 y2, LeO (impl_greatestLot.l1 k y0 y1 y2) (impl_greatestLot.l1 (k + 1) y0 y1 y2)) ∧ (∀ y0 y1 y2 y3 y4, LeO (impl_greatestLot.l2 k y0 y1 y2 y3 y4) (impl_greatestLot.l2 (k + 1) y0 y1 y2 y3 y4))
  | 0 => ⟨fun _ _ _ _ _ r h => by simp [impl_greatestLot.l0] at h, fun _ _ _ r h => by simp [impl_greatestLot.l1] at h, fun _ _ _ _ _ r h => by simp [impl_greatestLot.l2] at h⟩
  | k + 1 => by
    obtain ⟨ih0, ih1, ih2⟩ := impl_greatestLot.mono_l k
    refine ⟨?_, ?_, ?_⟩
    · intro y0 y1 y2 y3 y4
      unfold impl_greatestLot.l0
      repeat' first
      | (with_reducible exact ih0 _ _ _ _ _)
      | (with_reducible exact ih1 _ _ _)
      | (with_reducible exact ih2 _ _ _ _ _)
      | (with_reducible exact impl_afterLot.mono _ _ _ _)
      | (with_reducible exact LeO.refl _)
      | (with_reducible exact LeO.none _)
      | (with_reducible refine LeO.ite ?_ ?_)
      | (with_reducible refine LeO.bind ?_ (fun _ => ?_))
      | exact ih0 _ _ _ _ _
      | exact ih1 _ _ _
      | exact ih2 _ _ _ _ _
      | exact impl_afterLot.mono _ _ _ _
      | exact LeO.none _
      | refine LeO.ite ?_ ?_
      | refine LeO.bind ?_ (fun _ => ?_)
    · intro y0 y1 y2
      unfold impl_greatestLot.l1
      repeat' first
      | (with_reducible exact ih0 _ _ _ _ _)
      | (with_reducible exact ih1 _ _ _)
      | (with_reducible exact ih2 _ _ _ _ _)
      | (with_reducible exact impl_afterLot.mono _ _ _ _)
      | (with_reducible exact LeO.refl _)
      | (with_reducible exact LeO.none _)
      | (with_reducible refine LeO.ite ?_ ?_)
      | (with_reducible refine LeO.bind ?_ (fun _ => ?_))
      | exact ih0 _ _ _ _ _
      | exact ih1 _ _ _
      | exact ih2 _ _ _ _ _
      | exact impl_afterLot.mono _ _ _ _
      | exact LeO.none _
      | refine LeO.ite ?_ ?_
      | refine LeO.bind ?_ (fun _ => ?_)
    · intro y0 y1 y2 y3 y4
      unfold impl_greatestLot.l2
      repeat' first
      | (with_reducible exact ih0 _ _ _ _ _)
      | (with_reducible exact ih1 _ _ _)
      | (with_reducible exact ih2 _ _ _ _ _)
      | (with_reducible exact impl_afterLot.mono _ _ _ _)
      | (with_reducible exact LeO.refl _)
      | (with_reducible exact LeO.none _)
      | (with_reducible refine LeO.ite ?_ ?_)
      | (with_reducible refine LeO.bind ?_ (fun _ => ?_))
      | exact ih0 _ _ _ _ _
      | exact ih1 _ _ _
      | exact ih2 _ _ _ _ _
      | exact impl_afterLot.mono _ _ _ _
      | exact LeO.none _
      | refine LeO.ite ?_ ?_
      | refine LeO.bind ?_ (fun _ => ?_)
theorem impl_greatestLot.mono : ∀ a0 a1 k, LeO (impl_greatestLot.f k a0 a1) (impl_greatestLot.f (k + 1) a0 a1) := by
  intro a0 a1 k
  obtain ⟨ih0, ih1, ih2⟩ := impl_greatestLot.mono_l k
  unfold impl_greatestLot.f
  repeat' first
      | (with_reducible exact ih0 _ _ _ _ _)
      | (with_reducible exact ih1 _ _ _)
      | (with_reducible exact ih2 _ _ _ _ _)
      | (with_reducible exact impl_afterLot.mono _ _ _ _)
      | (with_reducible exact LeO.refl _)
      | (with_reducible exact LeO.none _)
      | (with_reducible refine LeO.ite ?_ ?_)
      | (with_reducible refine LeO.bind ?_ (fun _ => ?_))
      | exact ih0 _ _ _ _ _
      | exact ih1 _ _ _
      | exact ih2 _ _ _ _ _
      | exact impl_afterLot.mono _ _ _ _
      | exact LeO.none _
      | refine LeO.ite ?_ ?_
      | refine LeO.bind ?_ (fun _ => ?_)
set_option maxHeartbeats 8000000 in
set_option maxRecDepth 100000 in
theorem impl_greatestLot.calls (k : Nat) (A0 : Option Addr) (c0 : Nat) (l0 : List Int) (A1 : Option Addr) (c1 : Nat) (l1 : List (S47)) (r : List Int) (w : World) (hr0 : Kd.C (Kd.int .i64) w A0 l0.length l0) (hc0 : l0.length ≤ c0) (hr1 : Kd.C k47 w A1 l1.length l1) (hc1 : l1.length ≤ c1) (h : impl_greatestLot.f k l0 l1 = some r) :
    Calls Try.prog 59 #[.slice A0 l0.length c0, .slice A1 l1.length c1] w fun e w' => ∃ v0_ : Value, e = .returned (v0_) ∧ Kd.R (Kd.int .i64) 3 w' w.heap.size (fun _ => True) v0_ r ∧ Below w.heap.size w w' := by
  have HR0 := Aside0.mk hr0
  have HC0 := Aside0.mk hc0
  clear hr0 hc0
  have HR1 := Aside0.mk hr1
  have HC1 := Aside0.mk hc1
  clear hr1 hc1
  have HB := Aside0.mk (Below.refl w.heap.size w)
  have H : (impl_greatestLot.l0 k l0 l1 (([] : List Int)) (l1.length : Int) 0) = some r := h
  clear h
  obtain ⟨y539, hy539⟩ : ∃ y_ : List Int, y_ = (([] : List Int)) := ⟨_, rfl⟩
  replace H : (impl_greatestLot.l0 k l0 l1 y539 (l1.length : Int) 0) = some r := by first | (rw [hy539]; with_reducible exact H) | (have H2_ := (Option.bind_some _ _).symm.trans H; rw [hy539]; with_reducible exact H2_) | (have H2_ := (Option.bind_some _ _).symm.trans H; with_reducible exact H2_) | with_reducible exact H | (rw [hy539]; exact H) | exact H
  have Ny539 := Aside0.mk hy539
  clear hy539
  have H' := Aside0.mk H
  clear H
  go_enter Try.func59, Try.ntmps59
  go_wp2_with (first | ((with_reducible refine gate_dst (N := 8) rfl ?_); refine Kd.R_lit (Kd.int .i64) _ 3 ?hg (N := 8) ?hd (xs := ([] : List Int)) (inner := []) (ok := fun _ => True) (okp := fun _ => True) ?hr ?hp (fun _ hk => hk) trivial (Below.refl _ _) (Nat.le_refl _) (by simp) ?_; (case hd => rfl); (case hg => rfl); (case hr => first | (go_simp; done) | (go_simp; rfl)); (case hp => exact (Reps.none _ _)); intro v540 w3 ho4 hb hg_ hnew_; clear hg_ hnew_; (first | rw [← Ny539.out] at ho4 | (simp only [Int.reduceToNat] at ho4; rw [← Ny539.out] at ho4)); have n0_ := Aside0.mk (Kd.R_lower ho4 (below_size (by repeat (first | (with_reducible first | exact HB.out | apply below_alloc | apply pw_below_drewN | apply below_drew1) | exact HB.out)))); have n1_ := Aside0.mk (below_step (by repeat (first | (with_reducible first | exact HB.out | apply below_alloc | apply pw_below_drewN | apply below_drew1) | exact HB.out)) hb); clear HB; have HO541 := n0_; have HB := n1_; clear n0_ n1_; clear hb ho4))
  go_loopg [5, 11] k (fun kq v5 v11 w' => ∃ (x5_1 : List Int) (x11_1 : Int), v11 = .int .i64 x11_1 ∧ Aside0 (impl_greatestLot.l0 kq l0 l1 x5_1 (l1.length : Int) x11_1 = some r) ∧ Aside0 (kq ≤ k) ∧ Aside0 (Kd.R (Kd.int .i64) 3 w' w.heap.size (fun _ => True) v5 x5_1) ∧ Aside0 (Below w.heap.size w w'))
  case atStart => exact ⟨(y539), (0), (by first | rfl | (simp; done) | (simp [*]; done)), H', ⟨Nat.le_refl _⟩, ⟨by (with_reducible repeat (first | apply Kd.R_alloc | apply Kd.R_drewN | apply Kd.R_drew)); exact HO541.out⟩, ⟨by repeat (first | (with_reducible first | exact HB.out | apply below_alloc | apply pw_below_drewN | apply below_drew1) | exact HB.out)⟩⟩
  case round =>
    clear H'
    try clear c1
    try clear p2
    obtain ⟨x5_1, x11_1, rfl, HA, HK1, HO_5, HB⟩ := hrel
    cases gk with
    | zero => exact absurd HA.out (by simp [impl_greatestLot.l0])
    | succ k1 =>
      have H := HA.out
      clear HA
      simp only [impl_greatestLot.l0] at H
      by_cases c5 : x11_1 < (l1.length : Int)
      · rw [if_pos c5] at H
        have c5b0 : decide (x11_1 < (l1.length : Int)) = true := decide_eq_true c5
        clear c5
        by_cases c6 : x5_1.length < 17592186044416
        · rw [if_pos c6] at H
          have LMc6 := Aside0.mk c6
          clear c6
          obtain ⟨y542, hy542⟩ : ∃ y_ : List Int, y_ = (x5_1 ++ [1]) := ⟨_, rfl⟩
          replace H : (impl_greatestLot.l0 k1 l0 l1 y542 (l1.length : Int) (wrap64 (x11_1 + 1))) = some r := by first | (rw [hy542]; with_reducible exact H) | (have H2_ := (Option.bind_some _ _).symm.trans H; rw [hy542]; with_reducible exact H2_) | (have H2_ := (Option.bind_some _ _).symm.trans H; with_reducible exact H2_) | with_reducible exact H | (rw [hy542]; exact H) | exact H
          have Ny542 := Aside0.mk hy542
          clear hy542
          have H' := Aside0.mk H
          clear H
          go_wp2_with (first | ((with_reducible refine gate_builtin (b := .append) (xs := #[.tmp 13, .tmp 14]) rfl ?_); at_builtin; refine Kd.R_append (Kd.int .i64) (w0 := w) w.heap.size rfl (.tmp 13) (.tmp 14) 22 3 (.int .i64 0) 8 rfl Try.underlying22 info3 rfl (by decide) (by omega) u5 x5_1 1 [.int .i64 1] (fun _ => True) (fun _ => False) rfl rfl ?aP (fun _ hk => hk.elim) ?aF ?aO ?aB ?aS ?aL ?_; (case aP => exact rfl); (case aB => exact (by repeat (first | (with_reducible first | exact HB.out | apply below_alloc | apply pw_below_drewN | apply below_drew1) | exact HB.out))); (case aF => exact (fun _ _ => trivial)); (case aO => exact (by (with_reducible repeat (first | apply Kd.R_alloc | apply Kd.R_drewN | apply Kd.R_drew)); exact HO_5.out)); (case aS => exact (below_size (by repeat (first | (with_reducible first | exact HB.out | apply below_alloc | apply pw_below_drewN | apply below_drew1) | exact HB.out)))); (case aL => have := LMc6.out; omega); intro v543 w7 ho hb hg hat; rw [← Ny542.out] at ho; have n0_ := Aside0.mk (hb); have n1_ := Aside0.mk (ho); clear HB; clear HO_5; have HB := n0_; have HO544 := n1_; clear n0_ n1_; clear ho hb hg hat))
          go_roundg k1
          case measure => have := HK1.out; omega
          case rel => exact ⟨(y542), (wrap64 (x11_1 + 1)), (by first | rfl | (simp; done) | (simp [*]; done)), H', ⟨by have := HK1.out; omega⟩, ⟨by (with_reducible repeat (first | apply Kd.R_alloc | apply Kd.R_drewN | apply Kd.R_drew)); exact HO544.out⟩, ⟨by repeat (first | (with_reducible first | exact HB.out | apply below_alloc | apply pw_below_drewN | apply below_drew1) | exact HB.out)⟩⟩
        · rw [if_neg c6] at H
          exact absurd H (by simp)
      · rw [if_neg c5] at H
        have c5b0 : decide (x11_1 < (l1.length : Int)) = false := decide_eq_false c5
        clear c5
        have H' := Aside0.mk H
        clear H
        go_wp2
        go_loopg [] k1 (fun kq w' => ∃ (x5_2 : List Int), Aside0 (impl_greatestLot.l1 kq l0 l1 x5_2 = some r) ∧ Aside0 (kq ≤ k1) ∧ Aside0 (Kd.R (Kd.int .i64) 3 w' w.heap.size (fun _ => True) u5 x5_2) ∧ Aside0 (Below w.heap.size w w'))
        case atStart => exact ⟨(x5_1), H', ⟨Nat.le_refl _⟩, ⟨by (with_reducible repeat (first | apply Kd.R_alloc | apply Kd.R_drewN | apply Kd.R_drew)); exact HO_5.out⟩, ⟨by repeat (first | (with_reducible first | exact HB.out | apply below_alloc | apply pw_below_drewN | apply below_drew1) | exact HB.out)⟩⟩
        case round =>
          clear H'
          try clear c1
          try clear p2
          try clear c5
          try clear c5b0
          try clear c6
          try clear p6
          try clear p2
          obtain ⟨x5_2, HA, HK2, HO_5, HB⟩ := hrel
          cases gk with
          | zero => exact absurd HA.out (by simp [impl_greatestLot.l1])
          | succ k2 =>
            have H := HA.out
            clear HA
            simp only [impl_greatestLot.l1] at H
            replace H := Option.bind_eq_some_iff.mp H
            obtain ⟨t545, A80, H⟩ := H
            replace H : ((IndexFunc_greatestLot1.f t545).bind fun t548 => (if t548 < 0 then (some x5_2) else (impl_greatestLot.l2 k2 l0 l1 x5_2 t548 (wrap64 ((l1.length : Int) - 1))))) = some r := H
            have A8 := Aside0.mk A80
            clear A80
            replace H := Option.bind_eq_some_iff.mp H
            obtain ⟨t548, A90, H⟩ := H
            replace H : (if t548 < 0 then (some x5_2) else (impl_greatestLot.l2 k2 l0 l1 x5_2 t548 (wrap64 ((l1.length : Int) - 1)))) = some r := H
            have A9 := Aside0.mk A90
            clear A90
            by_cases c10 : t548 < 0
            · rw [if_pos c10] at H
              have c10b0 : decide (t548 < 0) = true := decide_eq_true c10
              clear c10
              obtain rfl := Option.some.inj H
              obtain ⟨Ao11, co11, eo11⟩ := Kd.R_slice HO_5.out
              subst eo11
              go_wp2_with (first | ((with_reducible refine gate_callee (f := 54) rfl ?_); refine goesL_ (some 20) rfl rfl Try.func54 (by kernel_rfl) rfl #[.slice A0 l0.length c0, .slice A1 l1.length c1, .slice Ao11 x5_2.length co11] rfl (by (try simp only [List.map_toArray, List.map_cons, List.map_nil]); first | done | rfl | (simp only [List.length_drop, List.length_take]; rfl)) ?_; (with_reducible refine (impl_afterLot.calls k2 _ _ l0 _ _ l1 _ _ x5_2 t545 _ ?side1 ?side2 ?side3 ?side4 ?side5 ?side6 A8.out).mono ?_); (case side1 => repeat (first | exact (Kd.C_below HR0.out HB.out) | (with_reducible refine Kd.C_alloc ?_ _) | (with_reducible refine Kd.C_drewN ?_ _) | (with_reducible refine Kd.C_drew ?_))); (case side2 => exact HC0.out); (case side3 => repeat (first | exact (Kd.C_below HR1.out HB.out) | (with_reducible refine Kd.C_alloc ?_ _) | (with_reducible refine Kd.C_drewN ?_ _) | (with_reducible refine Kd.C_drew ?_))); (case side4 => exact HC1.out); (case side5 => repeat (first | exact (Kd.R_reads' HO_5.out).2.2 | (with_reducible refine Kd.C_alloc ?_ _) | (with_reducible refine Kd.C_drewN ?_ _) | (with_reducible refine Kd.C_drew ?_))); (case side6 => exact (Kd.R_reads' HO_5.out).2.1); rintro e w12 ⟨v546, rfl, ho0, hb⟩; refine ⟨_, rfl, ?_⟩; have n0_ := Aside0.mk (Kd.R_elder' (by (with_reducible repeat (first | apply Kd.R_alloc | apply Kd.R_drewN | apply Kd.R_drew)); exact HO_5.out) (Kd.R_base ho0) hb); have n1_ := Aside0.mk (Kd.R_lower (Kd.R_new' ho0 (Kd.R_lt (by (with_reducible repeat (first | apply Kd.R_alloc | apply Kd.R_drewN | apply Kd.R_drew)); exact HO_5.out))) (below_size (by repeat (first | (with_reducible first | exact HB.out | apply below_alloc | apply pw_below_drewN | apply below_drew1) | exact HB.out)))); have n2_ := Aside0.mk (below_step (by repeat (first | (with_reducible first | exact HB.out | apply below_alloc | apply pw_below_drewN | apply below_drew1) | exact HB.out)) hb); clear HO_5; clear HB; have HO_5 := n0_; have HO547 := n1_; have HB := n2_; clear n0_ n1_ n2_; (try clear hb); (try clear hb2); (try clear hk); (try clear hi); (try clear ho0); obtain ⟨Ao13, co13, eo13⟩ := Kd.R_slice HO547.out; subst eo13) | ((with_reducible refine gate_callee (f := 65) rfl ?_); refine goesL_ (some 21) rfl rfl Try.func65 (by kernel_rfl) rfl #[.slice Ao13 t545.length co13, .func (.func 66) #[] #[]] rfl (by (try simp only [List.map_toArray, List.map_cons, List.map_nil]); first | done | rfl | (simp only [List.length_drop, List.length_take]; rfl)) ?_; (with_reducible refine (IndexFunc_greatestLot1.calls _ _ t545 t548 _ ?side1 ?side2 A9.out).mono ?_); (case side1 => repeat (first | exact (Kd.R_reads' HO547.out).2.2 | (with_reducible refine Kd.C_alloc ?_ _) | (with_reducible refine Kd.C_drewN ?_ _) | (with_reducible refine Kd.C_drew ?_))); (case side2 => exact (Kd.R_reads' HO547.out).2.1); rintro e w' ⟨rfl, ⟨nd, rfl⟩⟩; refine ⟨_, rfl, ?_⟩))
              go_ret
              exact ⟨_, by first | rfl | (simp [errW_none, errW_some] <;> rfl) | (simp [*, errW_none, errW_some] <;> rfl), by (with_reducible repeat (first | apply Kd.R_alloc | apply Kd.R_drewN | apply Kd.R_drew)); exact Kd.R_mono HO_5.out (fun _ hk => trivial), by repeat (first | (with_reducible first | exact HB.out | apply below_alloc | apply pw_below_drewN | apply below_drew1) | exact HB.out)⟩
            · rw [if_neg c10] at H
              have c10b0 : decide (t548 < 0) = false := decide_eq_false c10
              clear c10
              have H' := Aside0.mk H
              clear H
              obtain ⟨Ao14, co14, eo14⟩ := Kd.R_slice HO_5.out
              subst eo14
              go_wp2_with (first | ((with_reducible refine gate_callee (f := 54) rfl ?_); refine goesL_ (some 20) rfl rfl Try.func54 (by kernel_rfl) rfl #[.slice A0 l0.length c0, .slice A1 l1.length c1, .slice Ao14 x5_2.length co14] rfl (by (try simp only [List.map_toArray, List.map_cons, List.map_nil]); first | done | rfl | (simp only [List.length_drop, List.length_take]; rfl)) ?_; (with_reducible refine (impl_afterLot.calls k2 _ _ l0 _ _ l1 _ _ x5_2 t545 _ ?side1 ?side2 ?side3 ?side4 ?side5 ?side6 A8.out).mono ?_); (case side1 => repeat (first | exact (Kd.C_below HR0.out HB.out) | (with_reducible refine Kd.C_alloc ?_ _) | (with_reducible refine Kd.C_drewN ?_ _) | (with_reducible refine Kd.C_drew ?_))); (case side2 => exact HC0.out); (case side3 => repeat (first | exact (Kd.C_below HR1.out HB.out) | (with_reducible refine Kd.C_alloc ?_ _) | (with_reducible refine Kd.C_drewN ?_ _) | (with_reducible refine Kd.C_drew ?_))); (case side4 => exact HC1.out); (case side5 => repeat (first | exact (Kd.R_reads' HO_5.out).2.2 | (with_reducible refine Kd.C_alloc ?_ _) | (with_reducible refine Kd.C_drewN ?_ _) | (with_reducible refine Kd.C_drew ?_))); (case side6 => exact (Kd.R_reads' HO_5.out).2.1); rintro e w15 ⟨v546, rfl, ho0, hb⟩; refine ⟨_, rfl, ?_⟩; have n0_ := Aside0.mk (Kd.R_elder' (by (with_reducible repeat (first | apply Kd.R_alloc | apply Kd.R_drewN | apply Kd.R_drew)); exact HO_5.out) (Kd.R_base ho0) hb); have n1_ := Aside0.mk (Kd.R_lower (Kd.R_new' ho0 (Kd.R_lt (by (with_reducible repeat (first | apply Kd.R_alloc | apply Kd.R_drewN | apply Kd.R_drew)); exact HO_5.out))) (below_size (by repeat (first | (with_reducible first | exact HB.out | apply below_alloc | apply pw_below_drewN | apply below_drew1) | exact HB.out)))); have n2_ := Aside0.mk (below_step (by repeat (first | (with_reducible first | exact HB.out | apply below_alloc | apply pw_below_drewN | apply below_drew1) | exact HB.out)) hb); clear HO_5; clear HB; have HO_5 := n0_; have HO547 := n1_; have HB := n2_; clear n0_ n1_ n2_; (try clear hb); (try clear hb2); (try clear hk); (try clear hi); (try clear ho0); obtain ⟨Ao16, co16, eo16⟩ := Kd.R_slice HO547.out; subst eo16) | ((with_reducible refine gate_callee (f := 65) rfl ?_); refine goesL_ (some 21) rfl rfl Try.func65 (by kernel_rfl) rfl #[.slice Ao16 t545.length co16, .func (.func 66) #[] #[]] rfl (by (try simp only [List.map_toArray, List.map_cons, List.map_nil]); first | done | rfl | (simp only [List.length_drop, List.length_take]; rfl)) ?_; (with_reducible refine (IndexFunc_greatestLot1.calls _ _ t545 t548 _ ?side1 ?side2 A9.out).mono ?_); (case side1 => repeat (first | exact (Kd.R_reads' HO547.out).2.2 | (with_reducible refine Kd.C_alloc ?_ _) | (with_reducible refine Kd.C_drewN ?_ _) | (with_reducible refine Kd.C_drew ?_))); (case side2 => exact (Kd.R_reads' HO547.out).2.1); rintro e w' ⟨rfl, ⟨nd, rfl⟩⟩; refine ⟨_, rfl, ?_⟩))
              go_loopg [7] k2 (fun kq v7 w' => ∃ (x5_3 : List Int) (x7_3 : Int), v7 = .int .i64 x7_3 ∧ Aside0 (impl_greatestLot.l2 kq l0 l1 x5_3 t548 x7_3 = some r) ∧ Aside0 (kq ≤ k2) ∧ Aside0 (Kd.R (Kd.int .i64) 3 w' w.heap.size (fun _ => True) (.slice Ao14 x5_2.length co14) x5_3) ∧ Aside0 (Below w.heap.size w w'))
              case atStart => exact ⟨(x5_2), (wrap64 ((l1.length : Int) - 1)), (by first | rfl | (simp; done) | (simp [*]; done)), H', ⟨Nat.le_refl _⟩, ⟨by (with_reducible repeat (first | apply Kd.R_alloc | apply Kd.R_drewN | apply Kd.R_drew)); exact Kd.R_mono HO_5.out (fun _ hk => trivial)⟩, ⟨by repeat (first | (with_reducible first | exact HB.out | apply below_alloc | apply pw_below_drewN | apply below_drew1) | exact HB.out)⟩⟩
              case round =>
                clear H'
                try clear c1
                try clear p2
                try clear c5
                try clear c5b0
                try clear c6
                try clear p6
                try clear c8
                try clear c10
                try clear c10b0
                try clear p2
                try clear p6
                obtain ⟨x5_3, x7_3, rfl, HA, HK3, HO_5, HB⟩ := hrel
                have hl5_3 := (Kd.R_reads' HO_5.out).1
                rw [hl5_3] at HO_5
                (try simp only [hl5_3])
                cases gk with
                | zero => exact absurd HA.out (by simp [impl_greatestLot.l2])
                | succ k3 =>
                  have H := HA.out
                  clear HA
                  simp only [impl_greatestLot.l2] at H
                  by_cases c17 : x7_3 ≥ 0
                  · rw [if_pos c17] at H
                    have c17b0 : decide (0 ≤ x7_3) = true := decide_eq_true c17
                    clear c17
                    by_cases c18 : 0 ≤ x7_3
                    · rw [if_pos c18] at H
                      have c18b0 : decide (0 ≤ x7_3) = true := decide_eq_true c18
                      clear c18
                      by_cases c19 : x7_3 < (l1.length : Int)
                      · rw [if_pos c19] at H
                        have c19b0 : decide (x7_3 < (l1.length : Int)) = true := decide_eq_true c19
                        clear c19
                        by_cases c20 : ((rd_T47 l1 x7_3).f0) = t548
                        · rw [if_pos c20] at H
                          have c20b0 : (((rd_T47 l1 x7_3).f0) == t548) = true := beq_iff_eq.mpr c20
                          have c20b1 : (((rd_T47 l1 x7_3).f0) != t548) = false := bne_eq_false_iff_eq.mpr c20
                          clear c20
                          by_cases c21 : x7_3 < (x5_3.length : Int)
                          · rw [if_pos c21] at H
                            have c21b0 : decide (x7_3 < (x5_3.length : Int)) = true := decide_eq_true c21
                            clear c21
                            by_cases c22 : (rd x5_3 x7_3) = 1
                            · rw [if_pos c22] at H
                              have c22b0 : ((rd x5_3 x7_3) == 1) = true := beq_iff_eq.mpr c22
                              have c22b1 : ((rd x5_3 x7_3) != 1) = false := bne_eq_false_iff_eq.mpr c22
                              clear c22
                              obtain ⟨y551, hy551⟩ : ∃ y_ : List Int, y_ = (x5_3.set (x7_3 : Int).toNat 0) := ⟨_, rfl⟩
                              replace H : (impl_greatestLot.l1 k3 l0 l1 y551) = some r := by first | (rw [hy551]; with_reducible exact H) | (have H2_ := (Option.bind_some _ _).symm.trans H; rw [hy551]; with_reducible exact H2_) | (have H2_ := (Option.bind_some _ _).symm.trans H; with_reducible exact H2_) | with_reducible exact H | (rw [hy551]; exact H) | exact H
                              have Ny551 := Aside0.mk hy551
                              clear hy551
                              have H' := Aside0.mk H
                              clear H
                              have p549 : 0 ≤ (x7_3 : Int) := of_decide_eq_true (by first | (with_reducible assumption) | assumption)
                              have q549 : x7_3 < (l1.length : Int) := of_decide_eq_true (by first | (with_reducible assumption) | assumption)
                              obtain ⟨ad549, e549, hx549_0, hx549_1, hx549_2⟩ := at_T47 HR1.out x7_3 p549 q549
                              cases e549
                              replace hx549_0 := (HB.out.cell (World.block_lt_of_cell? w _ hx549_0)).trans hx549_0
                              replace hx549_1 := (HB.out.cell (World.block_lt_of_cell? w _ hx549_1)).trans hx549_1
                              replace hx549_2 := (HB.out.cell (World.block_lt_of_cell? w _ hx549_2)).trans hx549_2
                              replace p549 := eq_true p549
                              replace q549 := eq_true q549
                              have p550 : 0 ≤ (x7_3 : Int) := of_decide_eq_true (by first | (with_reducible assumption) | assumption)
                              have q550 : x7_3 < (x5_3.length : Int) := of_decide_eq_true (by first | (with_reducible assumption) | assumption)
                              obtain ⟨ad550, e550, hx550_0⟩ := Kd.at_int (Kd.R_reads' HO_5.out).2.2 x7_3 p550 q550
                              cases e550
                              replace p550 := eq_true p550
                              replace q550 := eq_true q550
                              have p23 : 0 ≤ (x7_3 : Int) := of_decide_eq_true (by first | (with_reducible assumption) | assumption)
                              have q23 : (x7_3 : Int) < ((x5_3.length : Int) : Int) := of_decide_eq_true (by first | (with_reducible assumption) | assumption)
                              obtain ⟨go23, co23, eo23, gb23, gl23, cl23, HG23⟩ := Kd.R_form HO_5.out (by omega)
                              (first | cases eo23 | (injection eo23 with ea_ en_ ec_; (first | subst ea_ | (injection ea_ with ea_; subst ea_)); subst ec_; clear en_))
                              have GB23 := Aside0.mk gb23
                              have GG23 := Aside0.mk HG23
                              clear gb23 gl23 HG23
                              (first | simp only [add_plain] at hx550_0 | skip)
                              obtain ⟨hx23_0, hf23_0⟩ := Kd.R_celln 0 HO_5.out (x7_3 : Int) p23 q23
                              replace p23 := eq_true p23
                              replace q23 := eq_true q23
                              have HP24 := Kd.R_putg HO_5.out (x7_3 : Int) 0
                              go_wp2_with (first | ((with_reducible refine gate_store (t := 3) (p := 48) rfl ?_); refine store_event (t := 3) (p := 48) (v := ?vo_w25) (w1 := (wr.setCell ⟨go23, (x7_3 : Int).toNat, none⟩ (.int .i64 0))) ?hg ?ho ?hn ?hr ?_; (case ho => rfl); (case hg => rfl); (case hn => rfl); (case hr => first | (go_simp; done) | (go_simp; rfl)); intro w25 hw; have hg : wr.grownBy w25 (some go23) := (by rw [hw]; exact HP24.2); have hp_ : Kd.R (Kd.int .i64) 3 w25 w.heap.size (fun _ => True) (.slice (some ⟨go23, 0, none⟩) x5_3.length co14) y551 := (by rw [hw, Ny551.out]; exact HP24.1); clear HP24; have n0_ := Aside0.mk (hp_); have n1_ := Aside0.mk ((by rw [hw]; exact below_set (HB.out) GB23.out : Below w.heap.size w w25)); clear HO_5; clear HB; have HO_5 := n0_; have HB := n1_; clear n0_ n1_; clear hg hw hp_))
                              (try simp only [← hl5_3])
                              go_roundg k3
                              case measure => have := HK1.out; have := HK2.out; have := HK3.out; omega
                              case rel => exact ⟨(y551), H', ⟨by have := HK1.out; have := HK2.out; have := HK3.out; omega⟩, ⟨by (try simp only [hl5_3]); (with_reducible repeat (first | apply Kd.R_alloc | apply Kd.R_drewN | apply Kd.R_drew)); exact HO_5.out⟩, ⟨by repeat (first | (with_reducible first | exact HB.out | apply below_alloc | apply pw_below_drewN | apply below_drew1) | exact HB.out)⟩⟩
                            · rw [if_neg c22] at H
                              have c22b0 : ((rd x5_3 x7_3) == 1) = false := beq_eq_false_iff_ne.mpr c22
                              have c22b1 : ((rd x5_3 x7_3) != 1) = true := bne_iff_ne.mpr c22
                              have H' := Aside0.mk H
                              clear H
                              have p549 : 0 ≤ (x7_3 : Int) := of_decide_eq_true (by first | (with_reducible assumption) | assumption)
                              have q549 : x7_3 < (l1.length : Int) := of_decide_eq_true (by first | (with_reducible assumption) | assumption)
                              obtain ⟨ad549, e549, hx549_0, hx549_1, hx549_2⟩ := at_T47 HR1.out x7_3 p549 q549
                              cases e549
                              replace hx549_0 := (HB.out.cell (World.block_lt_of_cell? w _ hx549_0)).trans hx549_0
                              replace hx549_1 := (HB.out.cell (World.block_lt_of_cell? w _ hx549_1)).trans hx549_1
                              replace hx549_2 := (HB.out.cell (World.block_lt_of_cell? w _ hx549_2)).trans hx549_2
                              replace p549 := eq_true p549
                              replace q549 := eq_true q549
                              have p550 : 0 ≤ (x7_3 : Int) := of_decide_eq_true (by first | (with_reducible assumption) | assumption)
                              have q550 : x7_3 < (x5_3.length : Int) := of_decide_eq_true (by first | (with_reducible assumption) | assumption)
                              obtain ⟨ad550, e550, hx550_0⟩ := Kd.at_int (Kd.R_reads' HO_5.out).2.2 x7_3 p550 q550
                              cases e550
                              replace p550 := eq_true p550
                              replace q550 := eq_true q550
                              go_wp2
                              (try simp only [← hl5_3])
                              go_roundg k3
                              case measure => have := HK1.out; have := HK2.out; have := HK3.out; omega
                              case rel => exact ⟨(x5_3), (wrap64 (x7_3 - 1)), (by first | rfl | (simp; done) | (simp [*]; done)), H', ⟨by have := HK1.out; have := HK2.out; have := HK3.out; omega⟩, ⟨by (try simp only [hl5_3]); (with_reducible repeat (first | apply Kd.R_alloc | apply Kd.R_drewN | apply Kd.R_drew)); exact HO_5.out⟩, ⟨by repeat (first | (with_reducible first | exact HB.out | apply below_alloc | apply pw_below_drewN | apply below_drew1) | exact HB.out)⟩⟩
                          · rw [if_neg c21] at H
                            exact absurd H (by simp)
                        · rw [if_neg c20] at H
                          have c20b0 : (((rd_T47 l1 x7_3).f0) == t548) = false := beq_eq_false_iff_ne.mpr c20
                          have c20b1 : (((rd_T47 l1 x7_3).f0) != t548) = true := bne_iff_ne.mpr c20
                          have H' := Aside0.mk H
                          clear H
                          have p549 : 0 ≤ (x7_3 : Int) := of_decide_eq_true (by first | (with_reducible assumption) | assumption)
                          have q549 : x7_3 < (l1.length : Int) := of_decide_eq_true (by first | (with_reducible assumption) | assumption)
                          obtain ⟨ad549, e549, hx549_0, hx549_1, hx549_2⟩ := at_T47 HR1.out x7_3 p549 q549
                          cases e549
                          replace hx549_0 := (HB.out.cell (World.block_lt_of_cell? w _ hx549_0)).trans hx549_0
                          replace hx549_1 := (HB.out.cell (World.block_lt_of_cell? w _ hx549_1)).trans hx549_1
                          replace hx549_2 := (HB.out.cell (World.block_lt_of_cell? w _ hx549_2)).trans hx549_2
                          replace p549 := eq_true p549
                          replace q549 := eq_true q549
                          go_wp2
                          (try simp only [← hl5_3])
                          go_roundg k3
                          case measure => have := HK1.out; have := HK2.out; have := HK3.out; omega
                          case rel => exact ⟨(x5_3), (wrap64 (x7_3 - 1)), (by first | rfl | (simp; done) | (simp [*]; done)), H', ⟨by have := HK1.out; have := HK2.out; have := HK3.out; omega⟩, ⟨by (try simp only [hl5_3]); (with_reducible repeat (first | apply Kd.R_alloc | apply Kd.R_drewN | apply Kd.R_drew)); exact HO_5.out⟩, ⟨by repeat (first | (with_reducible first | exact HB.out | apply below_alloc | apply pw_below_drewN | apply below_drew1) | exact HB.out)⟩⟩
                      · rw [if_neg c19] at H
                        exact absurd H (by simp)
                    · rw [if_neg c18] at H
                      exact absurd H (by simp)
                  · rw [if_neg c17] at H
                    have c17b0 : decide (0 ≤ x7_3) = false := decide_eq_false c17
                    clear c17
                    have H' := Aside0.mk H
                    clear H
                    go_wp2
                    (try simp only [← hl5_3])
                    go_roundg k3
                    case measure => have := HK1.out; have := HK2.out; have := HK3.out; omega
                    case rel => exact ⟨(x5_3), H', ⟨by have := HK1.out; have := HK2.out; have := HK3.out; omega⟩, ⟨by (try simp only [hl5_3]); (with_reducible repeat (first | apply Kd.R_alloc | apply Kd.R_drewN | apply Kd.R_drew)); exact HO_5.out⟩, ⟨by repeat (first | (with_reducible first | exact HB.out | apply below_alloc | apply pw_below_drewN | apply below_drew1) | exact HB.out)⟩⟩
end Go.Proofs.Ytbnkiikpolcpkaa.PU

namespace Go.Proofs.Ytbnkiikpolcpkaa.PU
open Go.RowKit Go.Proofs.YtbnkiikpolcpkaaW.PrintWords Go.Proofs.YtbnkiikpolcpkaaW.PrintLast Go.Proofs.YtbnkiikpolcpkaaW.PrintMore
attribute [local go_sem] max2_int min2_int max_two min_two max_three min_three max_four min_four   -- for this text's walks alone
set_option linter.unusedVariables false
set_option linter.unusedSimpArgs false
def impl_GreatestLot.f (k : Nat) (l0 : List Int) (l1 : List (S47)) : Option (List Int) := (impl_areWaits.f k l0 l1).bind fun t552 => (if t552 = true then ((impl_greatestLot.f k l0 l1).bind fun t553 => (some t553)) else (some ([] : List Int)))
end Go.Proofs.Ytbnkiikpolcpkaa.PU
