/- FnWithoutCircles: for every input the law holds. No condition. -/
import Derived.Test.YtfooakkhkehpiaaZFnWithoutCircles1
import Derived.Test.YtfooakkhkehpiaaZFnWithoutCircles2
import Derived.Test.YtfooakkhkehpiaaZFnWithoutCircles3
namespace Go.Proofs.Ytfooakkhkehpiaa.PU
open Go.RowKit Go.Proofs.YtfooakkhkehpiaaW.PrintWords Go.Proofs.YtfooakkhkehpiaaW.PrintLast Go.Proofs.YtfooakkhkehpiaaW.PrintMore Go.Proofs.Ytfooakkhkehpiaa.Qd
attribute [local go_sem] max2_int min2_int max_two min_two max_three min_three max_four min_four
set_option linter.unusedVariables false
set_option linter.unusedSimpArgs false
mutual
def spec_l3Paths.j0 : Nat → List Int → List (List Int) → Int → Bool → List Int → List (List Int) → Option ((List (List Int)))
 | 0, _, _, _, _, _, _ => none
 | k + 1, x1, x5, x6, x31, oc, mg => if x31 = true then ((some (([] : List Int) : List Int)).bind fun vr => (if vr.length + x1.length < 17592186044416 then ((some (([(vr ++ x1)] : List (List Int)) : List (List Int))).bind fun ng => (if x5.length + ng.length < 5864062014805 then (spec_l3Paths.j1 k x1 (x5 ++ ng) x6 oc mg) else (none))) else (none))) else (spec_l3Paths.j1 k x1 x5 x6 oc mg)
def spec_l3Paths.j1 : Nat → List Int → List (List Int) → Int → List Int → List (List Int) → Option ((List (List Int)))
 | 0, _, _, _, _, _ => none
 | k + 1, x1, x5, x6, oc, mg => if 0 < (x1.length : Int) then (spec_l3Paths.l0 k x1 x5 x6 (wrap64 ((rd x1 0) + 1)) oc mg) else (none)
def spec_l3Paths.l0 : Nat → List Int → List (List Int) → Int → Int → List Int → List (List Int) → Option ((List (List Int)))
 | 0, _, _, _, _, _, _ => none
 | k + 1, x1, x5, x6, x7, oc, mg => if x7 < (oc.length : Int) then (if 0 ≤ x6 then (if x6 < (mg.length : Int) then (if 0 ≤ x7 then (if x7 < ((rd_L1 mg x6).length : Int) then (if (rd (rd_L1 mg x6) x7) = 0 then (spec_l3Paths.l0 k x1 x5 x6 (wrap64 (x7 + 1)) oc mg) else (spec_l3Paths.l1 k x1 x5 x6 x7 0 oc mg)) else (none)) else (none)) else (none)) else (none)) else (some x5)
def spec_l3Paths.l1 : Nat → List Int → List (List Int) → Int → Int → Int → List Int → List (List Int) → Option ((List (List Int)))
 | 0, _, _, _, _, _, _, _ => none
 | k + 1, x1, x5, x6, x7, x8, oc, mg => if x8 < (x1.length : Int) then (if 0 ≤ x8 then (if (rd x1 x8) = x7 then (spec_l3Paths.l0 k x1 x5 x6 (wrap64 (x7 + 1)) oc mg) else (spec_l3Paths.l1 k x1 x5 x6 x7 (wrap64 (x8 + 1)) oc mg)) else (none)) else ((some (([] : List Int) : List Int)).bind fun tt => (if tt.length + x1.length < 17592186044416 then ((some (tt ++ x1 : List Int)).bind fun nh => ((some (([x7] : List Int) : List Int)).bind fun ie => (if nh.length + ie.length < 17592186044416 then ((spec_l3Paths.f k oc mg (nh ++ ie)).bind fun ka => (if x5.length + ka.length < 5864062014805 then (spec_l3Paths.l0 k x1 (x5 ++ ka) x6 (wrap64 (x7 + 1)) oc mg) else (none))) else (none)))) else (none)))
def spec_l3Paths.f : Nat → List Int → List (List Int) → List Int → Option ((List (List Int)))
 | 0, _, _, _ => none
 | k + 1, ab, aa, l1 => (some (([] : List (List Int)) : List (List Int))).bind fun ig => (if 0 ≤ (wrap64 ((l1.length : Int) - 1)) then (if (wrap64 ((l1.length : Int) - 1)) < (l1.length : Int) then (if (l1.length : Int) > 1 then (if 0 ≤ (rd l1 (wrap64 ((l1.length : Int) - 1))) then (if (rd l1 (wrap64 ((l1.length : Int) - 1))) < (aa.length : Int) then (if 0 < (l1.length : Int) then (if 0 ≤ (rd l1 0) then (if (rd l1 0) < ((rd_L1 aa (rd l1 (wrap64 ((l1.length : Int) - 1)))).length : Int) then (spec_l3Paths.j0 k l1 ig (rd l1 (wrap64 ((l1.length : Int) - 1))) (decide ((rd (rd_L1 aa (rd l1 (wrap64 ((l1.length : Int) - 1)))) (rd l1 0)) > 0)) ab aa) else (none)) else (none)) else (none)) else (none)) else (none)) else (spec_l3Paths.j0 k l1 ig (rd l1 (wrap64 ((l1.length : Int) - 1))) false ab aa)) else (none)) else (none))
end
theorem spec_l3Paths.mq {p : Prop} (h : p := by
 repeat' first
 | (with_reducible exact ih0 _ _ _)
 | (with_reducible exact ih1 _ _ _ _ _ _)
 | (with_reducible exact ih2 _ _ _ _ _)
 | (with_reducible exact ih3 _ _ _ _ _ _)
 | (with_reducible exact ih4 _ _ _ _ _ _ _)
 | (with_reducible exact LeO.refl _)
 | (with_reducible exact LeO.none _)
 | (with_reducible refine LeO.ite ?_ ?_)
 | (with_reducible refine LeO.bind ?_ (fun _ => ?_))
 | exact ih0 _ _ _
 | exact ih1 _ _ _ _ _ _
 | exact ih2 _ _ _ _ _
 | exact ih3 _ _ _ _ _ _
 | exact ih4 _ _ _ _ _ _ _
 | exact LeO.none _
 | refine LeO.ite ?_ ?_
 | refine LeO.bind ?_ (fun _ => ?_)) : p := h
theorem spec_l3Paths.mono_l : ∀ k, (∀ y0 y1 y2, LeO (spec_l3Paths.f k y0 y1 y2) (spec_l3Paths.f (k + 1) y0 y1 y2)) ∧ (∀ y0 y1 y2 y3 y4 y5, LeO (spec_l3Paths.j0 k y0 y1 y2 y3 y4 y5) (spec_l3Paths.j0 (k + 1) y0 y1 y2 y3 y4 y5)) ∧ (∀ y0 y1 y2 y3 y4, LeO (spec_l3Paths.j1 k y0 y1 y2 y3 y4) (spec_l3Paths.j1 (k + 1) y0 y1 y2 y3 y4)) ∧ (∀ y0 y1 y2 y3 y4 y5, LeO (spec_l3Paths.l0 k y0 y1 y2 y3 y4 y5) (spec_l3Paths.l0 (k + 1) y0 y1 y2 y3 y4 y5)) ∧ (∀ y0 y1 y2 y3 y4 y5 y6, LeO (spec_l3Paths.l1 k y0 y1 y2 y3 y4 y5 y6) (spec_l3Paths.l1 (k + 1) y0 y1 y2 y3 y4 y5 y6))
 | 0 => ⟨fun _ _ _ r h => by simp [spec_l3Paths.f] at h, fun _ _ _ _ _ _ r h => by simp [spec_l3Paths.j0] at h, fun _ _ _ _ _ r h => by simp [spec_l3Paths.j1] at h, fun _ _ _ _ _ _ r h => by simp [spec_l3Paths.l0] at h, fun _ _ _ _ _ _ _ r h => by simp [spec_l3Paths.l1] at h⟩
 | k + 1 => by
  obtain ⟨ih0, ih1, ih2, ih3, ih4⟩ := spec_l3Paths.mono_l k
  refine ⟨?_, ?_, ?_, ?_, ?_⟩
  ·intro y0 y1 y2
   unfold spec_l3Paths.f
   exact spec_l3Paths.mq
  ·intro y0 y1 y2 y3 y4 y5
   unfold spec_l3Paths.j0
   exact spec_l3Paths.mq
  ·intro y0 y1 y2 y3 y4
   unfold spec_l3Paths.j1
   exact spec_l3Paths.mq
  ·intro y0 y1 y2 y3 y4 y5
   unfold spec_l3Paths.l0
   exact spec_l3Paths.mq
  ·intro y0 y1 y2 y3 y4 y5 y6
   unfold spec_l3Paths.l1
   exact spec_l3Paths.mq
theorem spec_l3Paths.mono : ∀ a0 a1 a2 k, LeO (spec_l3Paths.f k a0 a1 a2) (spec_l3Paths.f (k + 1) a0 a1 a2) := by
 intro a0 a1 a2 k
 obtain ⟨ih0, ih1, ih2, ih3, ih4⟩ := spec_l3Paths.mono_l k
 exact ih0 a0 a1 a2
def spec_l3Paths.T3 : Bool × List (List Nat × List Nat) := (true, [([], []), ([0], [0]), ([1], [1]), ([2], [2]), ([3], [3]), ([4, 3], [3, 4]), ([3], [3]), ([5, 6, 3], [3, 5, 6]), ([7, 3], [3, 7]), ([3], [3]), ([9, 3], [3, 9]), ([10, 3], [3, 10]), ([8, 11, 3], [3, 8, 11]), ([12, 3], [3, 12]), ([13, 3], [3, 13]), ([3, 14], [3, 14])])
def spec_l3Paths.B3 : List Nat := [0, 1, 3, 7, 15, 31, 15, 127, 255, 15, 527, 1551, 4095, 8191, 16383, 32767]
theorem spec_l3Paths.tab3 : rtab .any (opsOf Try.f113 3) = spec_l3Paths.T3 := by kernel_rfl
theorem spec_l3Paths.bits3 : waitsOk spec_l3Paths.T3.2 spec_l3Paths.B3 = true := by kernel_rfl
def spec_l3Paths.T13 : Bool × List (List Nat × List Nat) := (true, [([], []), ([], []), ([], []), ([], []), ([2, 3], [2, 3]), ([], []), ([5], [5]), ([4, 6, 4], [4, 6]), ([1, 7, 7], [1, 7]), ([0, 8, 8], [0, 8]), ([9, 9, 0, 1, 2, 3, 4, 5, 6, 7, 8, 9], [0, 9])])
def spec_l3Paths.B13 : List Nat := [0, 0, 0, 0, 12, 0, 32, 124, 254, 511, 1023]
theorem spec_l3Paths.tab13 : rtab .any (opsOf Try.f113 13) = spec_l3Paths.T13 := by kernel_rfl
theorem spec_l3Paths.bits13 : waitsOk spec_l3Paths.T13.2 spec_l3Paths.B13 = true := by kernel_rfl
theorem b5 {p : Prop} (h : p := by repeat (first | (with_reducible first | exact HB.out | apply below_alloc | apply pw_below_drewN | apply below_drew1 | refine below_set ?_ cx5.out) | exact HB.out)) : p := h
set_option maxHeartbeats 8000000 in
set_option maxRecDepth 100000 in
theorem spec_l3Paths.calls (k : Nat) : ∀ (af : Option Addr) (ae : Nat) (ab : List Int) (ah : Option Addr) (ag : Nat) (aa : List (List Int)) (A1 : Option Addr) (c1 : Nat) (l1 : List Int) (r : List (List Int)) (w : World) (cg : Kd.C (Kd.int .i64) w af ab.length ab) (ck : ab.length ≤ ae) (ch : Kd.C (Kd.slice 3 (Kd.int .i64)) w ah aa.length aa) (cl : aa.length ≤ ag) (gx : Kd.C (Kd.int .i64) w A1 l1.length l1) (gj : l1.length ≤ c1) (h : spec_l3Paths.f k ab aa l1 = some r),
  Calls Try.prog 113 #[.agg #[.slice af ab.length ae, .slice ah aa.length ag], .slice A1 l1.length c1] w fun e w' => ∃ v0_ : Value, e = .returned (v0_) ∧ Kd.N (Kd.slice 3 (Kd.int .i64)) 22 w' w.heap.size (fun k_ => (w.heap.size ≤ k_)) v0_ r ∧ Below w.heap.size w w' := by
 induction k using Nat.strongRecOn with
 | _ k ih =>
 intro af ae ab ah ag aa A1 c1 l1 r w cg ck ch cl gx gj h
 cases k with
 | zero => exact absurd h (by simp [spec_l3Paths.f])
 | succ k =>
 simp only [spec_l3Paths.f] at h
 have hu25 := Try.underlying25
 have b7 := Aside0.mk cg
 have cn := Aside0.mk ck
 clear cg ck
 have bz := Aside0.mk ch
 have cr := Aside0.mk cl
 clear ch cl
 have eh := Aside0.mk gx
 have HC1 := Aside0.mk gj
 clear gx gj
 have HB := Aside0.mk (Below.refl w.heap.size w)
 have H : ((some (([] : List (List Int)) : List (List Int))).bind fun ig => (if 0 ≤ (wrap64 ((l1.length : Int) - 1)) then (if (wrap64 ((l1.length : Int) - 1)) < (l1.length : Int) then (if (l1.length : Int) > 1 then (if 0 ≤ (rd l1 (wrap64 ((l1.length : Int) - 1))) then (if (rd l1 (wrap64 ((l1.length : Int) - 1))) < (aa.length : Int) then (if 0 < (l1.length : Int) then (if 0 ≤ (rd l1 0) then (if (rd l1 0) < ((rd_L1 aa (rd l1 (wrap64 ((l1.length : Int) - 1)))).length : Int) then (spec_l3Paths.j0 k l1 ig (rd l1 (wrap64 ((l1.length : Int) - 1))) (decide ((rd (rd_L1 aa (rd l1 (wrap64 ((l1.length : Int) - 1)))) (rd l1 0)) > 0)) ab aa) else (none)) else (none)) else (none)) else (none)) else (none)) else (spec_l3Paths.j0 k l1 ig (rd l1 (wrap64 ((l1.length : Int) - 1))) false ab aa)) else (none)) else (none))) = some r := h
 clear h
 obtain ⟨ig, hy242⟩ : ∃ y_ : List (List Int), y_ = (([] : List (List Int))) := ⟨_, rfl⟩
 replace H : (if 0 ≤ (wrap64 ((l1.length : Int) - 1)) then (if (wrap64 ((l1.length : Int) - 1)) < (l1.length : Int) then (if (l1.length : Int) > 1 then (if 0 ≤ (rd l1 (wrap64 ((l1.length : Int) - 1))) then (if (rd l1 (wrap64 ((l1.length : Int) - 1))) < (aa.length : Int) then (if 0 < (l1.length : Int) then (if 0 ≤ (rd l1 0) then (if (rd l1 0) < ((rd_L1 aa (rd l1 (wrap64 ((l1.length : Int) - 1)))).length : Int) then (spec_l3Paths.j0 k l1 ig (rd l1 (wrap64 ((l1.length : Int) - 1))) (decide ((rd (rd_L1 aa (rd l1 (wrap64 ((l1.length : Int) - 1)))) (rd l1 0)) > 0)) ab aa) else (none)) else (none)) else (none)) else (none)) else (none)) else (spec_l3Paths.j0 k l1 ig (rd l1 (wrap64 ((l1.length : Int) - 1))) false ab aa)) else (none)) else (none)) = some r := by first | (rw [hy242]; with_reducible exact H) | (have H2_ := (Option.bind_some _ _).symm.trans H; rw [hy242]; with_reducible exact H2_) | (have H2_ := (Option.bind_some _ _).symm.trans H; with_reducible exact H2_) | with_reducible exact H | (rw [hy242]; exact H) | exact H
 have bf0 := Aside0.mk hy242
 clear hy242
 obtain ⟨ji3, hji3⟩ : ∃ j_ : Int, (wrap64 ((l1.length : Int) - 1)) = j_ := ⟨_, rfl⟩
 replace H : (if 0 ≤ (ji3) then (if (ji3) < (l1.length : Int) then (if (l1.length : Int) > 1 then (if 0 ≤ (rd l1 (ji3)) then (if (rd l1 (ji3)) < (aa.length : Int) then (if 0 < (l1.length : Int) then (if 0 ≤ (rd l1 0) then (if (rd l1 0) < ((rd_L1 aa (rd l1 (ji3))).length : Int) then (spec_l3Paths.j0 k l1 ig (rd l1 (ji3)) (decide ((rd (rd_L1 aa (rd l1 (ji3))) (rd l1 0)) > 0)) ab aa) else (none)) else (none)) else (none)) else (none)) else (none)) else (spec_l3Paths.j0 k l1 ig (rd l1 (ji3)) false ab aa)) else (none)) else (none)) = some r := by first | (rw [hji3] at H; exact H) | (simp only [hji3] at H ⊢; exact H)
 have hji3w : (IntKind.i64.wrap ((l1.length : Int) - 1)) = ji3 := (i64_w _).trans hji3
 obtain ⟨c4, H⟩ := pos_ H
 have i8 := decide_eq_true c4
 clear c4
 obtain ⟨c5, H⟩ := pos_ H
 have ev := decide_eq_true c5
 clear c5
 have qh := Aside0.mk H
 clear H
 go_enter Try.func113, Try.ntmps113
 go_upto_region 3 with (first | ((with_reducible refine gate_dst (N := 2) rfl ?_); refine bx_ (N := 2) #[.slice af ab.length ae, .slice ah aa.length ag] 25 ?_; intro b9 hg w7 hbox hb; have bf := Aside0.mk (hbox); have eh3 := Aside0.mk ((g60_ : w.heap.size ≤ b9)); have cx5 := Aside0.mk ((g60_ : w.heap.size ≤ b9)); replace HB := Aside0.mk (below_step (b5) hb); clear hb hbox hg) | ((with_reducible refine gate_dst (N := 9) rfl ?_); refine Kd.N_lit (Kd.slice 3 (Kd.int .i64)) _ 22 ?hg (N' := 9) ?hd (xs := ([] : List (List Int))) (inner := []) (ok := (fun k_ => (w.heap.size ≤ k_) ∧ k_ ≠ b9)) (okp := (fun k_ => (w.heap.size ≤ k_) ∧ k_ ≠ b9)) ?hr ?hp (fun _ hk => hk) ((show ∀ k_, w7.heap.size ≤ k_ → (fun k_ => (w.heap.size ≤ k_) ∧ k_ ≠ b9) k_ from fun k_ hk => ⟨(Nat.le_trans (below_size (b5)) hk), Kd.freshB (g := b9) (o := .cells #[.slice af ab.length ae, .slice ah aa.length ag] 25 (0, 0)) (uf0_ bf) k_ hk⟩) _ (Nat.le_refl _)) (Below.refl _ _) (Nat.le_refl _) (by simp) ?_; (case hd => rfl); (case hg => rfl); (case hr => first | (go_simp; done) | (go_simp; rfl)); (case hp => exact (Reps.none _ _)); intro kb w8 kx hb hg_ hnew_; clear hg_ hnew_; (first | rw [← bf0.out] at kx | (simp only [Int.reduceToNat] at kx; rw [← bf0.out] at kx)); have tu := Aside0.mk (Kd.N_lower kx (below_size (b5))); replace bf := bb_ bf hb; replace HB := Aside0.mk (below_step (b5) hb); clear hb kx; have qi : 0 ≤ ((ji3) : Int) := of_decide_eq_true (g0_); have qj : (ji3) < (l1.length : Int) := of_decide_eq_true (g0_); obtain ⟨af1, bx7, tv⟩ := Kd.at_int eh.out (ji3) qi qj; cases bx7; replace tv := cl_ HB tv; replace qi := eq_true qi; replace qj := eq_true qj)); (repeat ((first | go_step3 | rw [Exit.noGoto_normal] | rw [Exit.noGoto_exit] | rw [Exit.noGoto_ret]); go_upto_region 3 with (first | ((with_reducible refine gate_dst (N := 2) rfl ?_); refine bx_ (N := 2) #[.slice af ab.length ae, .slice ah aa.length ag] 25 ?_; intro b9 hg w7 hbox hb; have bf := Aside0.mk (hbox); have eh3 := Aside0.mk ((g60_ : w.heap.size ≤ b9)); have cx5 := Aside0.mk ((g60_ : w.heap.size ≤ b9)); replace HB := Aside0.mk (below_step (b5) hb); clear hb hbox hg) | ((with_reducible refine gate_dst (N := 9) rfl ?_); refine Kd.N_lit (Kd.slice 3 (Kd.int .i64)) _ 22 ?hg (N' := 9) ?hd (xs := ([] : List (List Int))) (inner := []) (ok := (fun k_ => (w.heap.size ≤ k_) ∧ k_ ≠ b9)) (okp := (fun k_ => (w.heap.size ≤ k_) ∧ k_ ≠ b9)) ?hr ?hp (fun _ hk => hk) ((show ∀ k_, w7.heap.size ≤ k_ → (fun k_ => (w.heap.size ≤ k_) ∧ k_ ≠ b9) k_ from fun k_ hk => ⟨(Nat.le_trans (below_size (b5)) hk), Kd.freshB (g := b9) (o := .cells #[.slice af ab.length ae, .slice ah aa.length ag] 25 (0, 0)) (uf0_ bf) k_ hk⟩) _ (Nat.le_refl _)) (Below.refl _ _) (Nat.le_refl _) (by simp) ?_; (case hd => rfl); (case hg => rfl); (case hr => first | (go_simp; done) | (go_simp; rfl)); (case hp => exact (Reps.none _ _)); intro kb w8 kx hb hg_ hnew_; clear hg_ hnew_; (first | rw [← bf0.out] at kx | (simp only [Int.reduceToNat] at kx; rw [← bf0.out] at kx)); have tu := Aside0.mk (Kd.N_lower kx (below_size (b5))); replace bf := bb_ bf hb; replace HB := Aside0.mk (below_step (b5) hb); clear hb kx; have qi : 0 ≤ ((ji3) : Int) := of_decide_eq_true (g0_); have qj : (ji3) < (l1.length : Int) := of_decide_eq_true (g0_); obtain ⟨af1, bx7, tv⟩ := Kd.at_int eh.out (ji3) qi qj; cases bx7; replace tv := cl_ HB tv; replace qi := eq_true qi; replace qj := eq_true qj))))
 (try simp only [Act.put, List.setIfInBounds_toArray, List.set_cons_zero, List.set_cons_succ])
 go_cut [31] (fun v31 wc => ∃ (kq : Nat) (bf1 : Bool), v31 = .bool bf1 ∧ Aside0 (spec_l3Paths.j0 kq l1 ig (rd l1 (ji3)) bf1 ab aa = some r) ∧ Aside0 (kq ≤ k) ∧ Aside0 (Kd.N (Kd.slice 3 (Kd.int .i64)) 22 wc w.heap.size (fun k_ => (w.heap.size ≤ k_) ∧ k_ ≠ b9) kb ig) ∧ Aside0 (wc.heap[b9]? = some (.cells #[(.slice af ab.length ae), (.slice ah aa.length ag)] 25 (0, 0))) ∧ Aside0 (Below w.heap.size w wc))
 case first =>
  have H := qh.out
  clear qh
  by_cases db : (l1.length : Int) > 1
  ·rw [if_pos db] at H
   have ia := decide_eq_true db
   have zi : decide (1 < l1.length) = true := decide_eq_true (by omega)
   clear db
   (first | rw [ia] | (simp only [i64_w, i32_w]; rw [ia]) | skip)
   obtain ⟨d5, H⟩ := pos_ H
   have mb := decide_eq_true d5
   clear d5
   obtain ⟨d2, H⟩ := pos_ H
   have lm := decide_eq_true d2
   clear d2
   obtain ⟨fu, H⟩ := pos_ H
   have ta := decide_eq_true fu
   have am5 : decide (0 < l1.length) = true := decide_eq_true (by omega)
   clear fu
   obtain ⟨f2, H⟩ := pos_ H
   have pv := decide_eq_true f2
   clear f2
   obtain ⟨cb, H⟩ := pos_ H
   have gv := decide_eq_true cb
   clear cb
   have H' := Aside0.mk H
   clear H
   try go_wp2
   replace tu := Aside0.mk (Kd.N_drew tu.out)
   replace bf := Aside0.mk (blk_drew bf.out)
   replace HB := Aside0.mk (below_drew1 HB.out)
   have zj : 0 ≤ ((rd l1 (ji3)) : Int) := of_decide_eq_true (g0_)
   have zk : (rd l1 (ji3)) < (aa.length : Int) := of_decide_eq_true (g0_)
   obtain ⟨cx6, fs0, eh4, eh5, vs, cx7, cx8⟩ := at_L1 bz.out (rd l1 (ji3)) zj zk
   have eh6 := vs
   cases eh5
   replace vs := cl_ HB vs
   have cx9 := Aside0.mk cx8
   have fs1 := Aside0.mk cx7
   clear cx8 cx7
   replace zj := eq_true zj
   replace zk := eq_true zk
   have zl : 0 ≤ (0 : Int) := (by omega)
   have zm : 0 < (l1.length : Int) := of_decide_eq_true (g0_)
   obtain ⟨eh7, eh8, r5⟩ := Kd.at_int eh.out 0 zl zm
   have bf2 := r5
   (try rw [show ((0 : Int)).toNat = 0 from rfl] at bf2)
   (try rw [show 0 * 1 = 0 from rfl] at bf2)
   (try rw [Addr.add_zero'] at bf2)
   obtain rfl : af1 = eh7 := (by injection eh8)
   have qi247 : (0 < l1.length) = True := eq_true (by omega)
   (try rw [show ((0 : Int)).toNat = 0 from rfl] at r5)
   (try rw [Addr.add_zero'] at r5)
   replace r5 := cl_ HB r5
   replace zl := eq_true zl
   replace zm := eq_true zm
   have zn : 0 ≤ ((rd l1 0) : Int) := of_decide_eq_true (g0_)
   have zo : (rd l1 0) < ((rd_L1 aa (rd l1 (ji3))).length : Int) := of_decide_eq_true (g0_)
   obtain ⟨cy0, eh9, vt⟩ := Kd.at_int cx9.out (rd l1 0) zn zo
   have ei0 := vt
   cases eh9
   replace vt := cl_ HB vt
   replace zn := eq_true zn
   replace zo := eq_true zo
   refine start_ (n := 16) (S := fun w' => w'.cell? ⟨b9, 0, none⟩ = some (.slice af ab.length ae) ∧ w'.cell? ⟨b9, 1, none⟩ = some (.slice (some cx6) aa.length ag) ∧ w'.cell? (cx6.add ((rd l1 (ji3))).toNat) = some (.slice (some cy0) (rd_L1 aa (rd l1 (ji3))).length eh4) ∧ w'.cell? af1 = some (.int .i64 (rd l1 0)) ∧ w'.cell? (cy0.add ((rd l1 0)).toNat) = some (.int .i64 (rd (rd_L1 aa (rd l1 (ji3))) (rd l1 0)))) (ds := []) (tl_ 16 0) (g1_) rfl (g1_) ⟨(blk_cell bf.out 0).trans rfl, (blk_cell bf.out 1).trans rfl, ((cl_ HB eh6).trans rfl), ((cl_ HB bf2).trans rfl), ((cl_ HB ei0).trans rfl)⟩ (fun hHeld => ?_); refine with_tabW spec_l3Paths.tab3 spec_l3Paths.bits3 (fun HT_ HW_ => ?_)
   generalize w8.drew = tc at tu bf HB cx9 vs r5 vt hHeld ⊢
   refine pw_ 0 16 (tl_ 16 1) rfl rfl ?_
   refine pw_ 1 17 (tl_ 16 3) rfl rfl ?_
   refine pw_ 2 18 (tl_ 16 7) rfl rfl ?_
   refine pw_ 3 19 (tl_ 16 15) rfl rfl ?_
   refine pw_ 4 20 (tl_ 16 31) rfl rfl ?_
   refine pw_ 6 22 (tl_ 16 95) rfl rfl ?_
   refine pw_ 9 25 (tl_ 16 607) rfl rfl ?_
   refine pw_ 10 26 (tl_ 16 1631) rfl rfl ?_
   refine tk4_ 5 21 (tl_ 16 1663) rfl rfl hHeld ?_
   refine pw_ 7 23 (tl_ 16 1791) rfl rfl ?_
   refine tk4_ 8 24 (tl_ 16 2047) rfl rfl hHeld ?_
   refine tk4_ 11 27 (tl_ 16 4095) rfl rfl hHeld ?_
   refine pw_ 12 28 (tl_ 16 8191) rfl rfl ?_
   refine tk4_ 13 29 (tl_ 16 16383) rfl rfl hHeld ?_
   refine pw_ 14 30 (tl_ 16 32767) rfl rfl ?_
   refine pw_ 15 31 (tl_ 16 65535) rfl rfl ?_
   refine done_ (done_of HT_.out (g1_)) ?_
   try go_wp2
   go_meet
   case rel => exact ⟨_, (decide ((rd (rd_L1 aa (rd l1 (ji3))) (rd l1 0)) > 0)), (by first | rfl | (simp; done) | (simp only [← hji3] <;> (first | rfl | simp)) | (simp [*]; done)), H', ⟨g12_⟩, ⟨uf4_ tu⟩, ⟨uf0_ bf⟩, ⟨b5⟩⟩
  ·rw [if_neg db] at H
   have ia := decide_eq_false db
   have zi : decide (1 < l1.length) = false := decide_eq_false (by omega)
   clear db
   (first | rw [ia] | (simp only [i64_w, i32_w]; rw [ia]) | skip)
   have H' := Aside0.mk H
   clear H
   try go_wp2
   replace tu := Aside0.mk (Kd.N_drew tu.out)
   replace bf := Aside0.mk (blk_drew bf.out)
   replace HB := Aside0.mk (below_drew1 HB.out)
   refine start_ (n := 16) (S := fun w' => True) (ds := []) (tl_ 16 0) (g1_) rfl (g1_) trivial (fun hHeld => ?_); refine with_tabW spec_l3Paths.tab3 spec_l3Paths.bits3 (fun HT_ HW_ => ?_)
   generalize w8.drew = tf at tu bf HB hHeld ⊢
   refine pw_ 0 16 (tl_ 16 1) rfl rfl ?_
   refine pw_ 1 17 (tl_ 16 3) rfl rfl ?_
   refine pw_ 2 18 (tl_ 16 7) rfl rfl ?_
   refine pw_ 3 19 (tl_ 16 15) rfl rfl ?_
   refine pu_ 4 20 (tl_ 16 31) rfl rfl ?_
   refine pu_ 5 21 (tl_ 16 63) rfl rfl ?_
   refine pu_ 6 22 (tl_ 16 127) rfl rfl ?_
   refine pu_ 7 23 (tl_ 16 255) rfl rfl ?_
   refine pu_ 8 24 (tl_ 16 511) rfl rfl ?_
   refine pu_ 9 25 (tl_ 16 1023) rfl rfl ?_
   refine pu_ 10 26 (tl_ 16 2047) rfl rfl ?_
   refine pu_ 11 27 (tl_ 16 4095) rfl rfl ?_
   refine pu_ 12 28 (tl_ 16 8191) rfl rfl ?_
   refine pu_ 13 29 (tl_ 16 16383) rfl rfl ?_
   refine pu_ 14 30 (tl_ 16 32767) rfl rfl ?_
   refine pw_ 15 31 (tl_ 16 65535) rfl rfl ?_
   refine done_ (done_of HT_.out (g1_)) ?_
   try go_wp2
   go_meet
   case rel => exact ⟨_, (false), (g2_), H', ⟨g12_⟩, ⟨uf4_ tu⟩, ⟨uf0_ bf⟩, ⟨b5⟩⟩
 case rest =>
  clear qh
  try clear c1
  try clear c2
  try clear p2
  try clear q2
  try clear hx2
  try clear qi2
  try clear c4
  try clear i8
  try clear c5
  try clear ev
  try clear p6
  try clear db
  try clear ia
  try clear zi
  try clear d5
  try clear mb
  try clear d2
  try clear lm
  try clear fu
  try clear ta
  try clear am5
  try clear f2
  try clear pv
  try clear cb
  try clear gv
  try clear tv
  try clear vs
  try clear r5
  try clear vt
  try clear qi
  try clear zj
  try clear zl
  try clear zn
  try clear qj
  try clear zk
  try clear zm
  try clear zo
  obtain ⟨kq, bf1, rfl, HA, HJ5, cm, bf, HB⟩ := hcut
  cases kq with
  | zero => exact absurd HA.out (by simp [spec_l3Paths.j0])
  | succ kj5 =>
   have H := HA.out
   clear HA
   simp only [spec_l3Paths.j0] at H
   have bx8 := Aside0.mk H
   clear H
   go_upto_if 31 with (fail)
   go_cut [5] (fun v5 wc => ∃ (kq : Nat) (bf3 : List (List Int)), Aside0 (spec_l3Paths.j1 kq l1 bf3 (rd l1 (ji3)) ab aa = some r) ∧ Aside0 (kq ≤ kj5) ∧ Aside0 (Kd.N (Kd.slice 3 (Kd.int .i64)) 22 wc w.heap.size (fun k_ => (w.heap.size ≤ k_) ∧ k_ ≠ b9) v5 bf3) ∧ Aside0 (wc.heap[b9]? = some (.cells #[(.slice af ab.length ae), (.slice ah aa.length ag)] 25 (0, 0))) ∧ Aside0 (Below w.heap.size w wc))
   case first =>
    have H := bx8.out
    clear bx8
    by_cases dr : bf1 = true
    ·subst dr
     replace H := ifp_ H
     obtain ⟨vr, hy249⟩ : ∃ y_ : List Int, y_ = (([] : List Int)) := ⟨_, rfl⟩
     replace H : (if vr.length + l1.length < 17592186044416 then ((some (([(vr ++ l1)] : List (List Int)) : List (List Int))).bind fun ng => (if ig.length + ng.length < 5864062014805 then (spec_l3Paths.j1 kj5 l1 (ig ++ ng) (rd l1 (ji3)) ab aa) else (none))) else (none)) = some r := by first | (rw [hy249]; with_reducible exact H) | (have H2_ := (Option.bind_some _ _).symm.trans H; rw [hy249]; with_reducible exact H2_) | (have H2_ := (Option.bind_some _ _).symm.trans H; with_reducible exact H2_) | with_reducible exact H | (rw [hy249]; exact H) | exact H
     have bf4 := Aside0.mk hy249
     clear hy249
     obtain ⟨fk, H⟩ := pos_ H
     have bf5 := Aside0.mk fk
     clear fk
     obtain ⟨r6, hy252⟩ : ∃ y_ : List Int, y_ = (vr ++ l1) := ⟨_, rfl⟩
     replace H : ((some (([r6] : List (List Int)) : List (List Int))).bind fun ng => (if ig.length + ng.length < 5864062014805 then (spec_l3Paths.j1 kj5 l1 (ig ++ ng) (rd l1 (ji3)) ab aa) else (none))) = some r := by first | (rw [hy252]; with_reducible exact H) | (have H2_ := (Option.bind_some _ _).symm.trans H; rw [hy252]; with_reducible exact H2_) | (have H2_ := (Option.bind_some _ _).symm.trans H; with_reducible exact H2_) | with_reducible exact H | (rw [hy252]; exact H) | exact H
     have cy1 := Aside0.mk hy252
     clear hy252
     obtain ⟨ng, hy255⟩ : ∃ y_ : List (List Int), y_ = (([r6] : List (List Int))) := ⟨_, rfl⟩
     replace H : (if ig.length + ng.length < 5864062014805 then (spec_l3Paths.j1 kj5 l1 (ig ++ ng) (rd l1 (ji3)) ab aa) else (none)) = some r := by first | (rw [hy255]; with_reducible exact H) | (have H2_ := (Option.bind_some _ _).symm.trans H; rw [hy255]; with_reducible exact H2_) | (have H2_ := (Option.bind_some _ _).symm.trans H; with_reducible exact H2_) | with_reducible exact H | (rw [hy255]; exact H) | exact H
     have bf6 := Aside0.mk hy255
     clear hy255
     obtain ⟨jq, H⟩ := pos_ H
     have cy2 := Aside0.mk jq
     clear jq
     obtain ⟨cy3, hy258⟩ : ∃ y_ : List (List Int), y_ = (ig ++ ng) := ⟨_, rfl⟩
     replace H : (spec_l3Paths.j1 kj5 l1 cy3 (rd l1 (ji3)) ab aa) = some r := by first | (rw [hy258]; with_reducible exact H) | (have H2_ := (Option.bind_some _ _).symm.trans H; rw [hy258]; with_reducible exact H2_) | (have H2_ := (Option.bind_some _ _).symm.trans H; with_reducible exact H2_) | with_reducible exact H | (rw [hy258]; exact H) | exact H
     have cy4 := Aside0.mk hy258
     clear hy258
     have H' := Aside0.mk H
     clear H
     go_wp2_with (first | ((with_reducible refine gate_dst (N := 33) rfl ?_); refine Kd.R_lit (Kd.int .i64) _ 3 ?hg (N := 33) ?hd (xs := ([] : List Int)) (inner := []) (ok := fun _ => True) (okp := fun _ => True) ?hr ?hp (fun _ hk => hk) trivial (Below.refl _ _) (Nat.le_refl _) (by simp) ?_; (case hd => rfl); (case hg => rfl); (case hr => first | (go_simp; done) | (go_simp; rfl)); (case hp => exact (Reps.none _ _)); intro bx9 w22 i0 hb hg_ hnew_; clear hg_ hnew_; (first | rw [← bf4.out] at i0 | (simp only [Int.reduceToNat] at i0; rw [← bf4.out] at i0)); replace cm := Aside0.mk (Kd.N_elder' (uf4_ cm) (Kd.R_base i0) hb); have zp := Aside0.mk (Kd.R_lower (Kd.R_newM (M := fun k_ => (w.heap.size ≤ k_)) i0 (below_size (b5)) (fun k_ h_ => h_)) (below_size (b5))); replace bf := bb_ bf hb; replace HB := Aside0.mk (below_step (b5) hb); clear hb i0) | ((with_reducible refine gate_builtin (b := .append) (xs := #[.tmp 33, .tmp 34]) rfl ?_); at_builtin; refine Kd.R_append_rows (Kd.int .i64) (w0 := w) w.heap.size rfl (.tmp 33) (.tmp 34) 22 3 (.int .i64 0) 8 rfl Try.underlying22 info3 rfl (by decide) (by omega) bx9 vr l1 _ _ _ (fun k_ => (w.heap.size ≤ k_)) (fun _ => False) rfl rfl ?aO ?aR (fun _ _ h => h) (fun _ h => h.elim) ?aF ?aB ?aS ?aL ?_; (case aR => exact uf2_ eh); (case aB => exact (b5)); (case aF => exact (fun k_ hk => (Nat.le_trans (below_size (b5)) hk))); (case aO => exact (by (with_reducible repeat (first | apply Kd.R_alloc | apply Kd.R_drewN | apply Kd.R_drew)); exact Kd.R_mono zp.out (fun _ hk => hk.1))); (case aS => exact (below_size (b5))); (case aL => have := bf5.out; omega); intro ei1 w24 ho hb hg hat; rw [← cy1.out] at ho; replace cm := Aside0.mk (Kd.N_afterv (ok := (fun k_ => (w.heap.size ≤ k_) ∧ k_ ≠ b9)) (uf4_ cm) hg hat); replace bf := Aside0.mk (blk_grown (g := b9) (o := .cells #[.slice af ab.length ae, .slice ah aa.length ag] 25 (0, 0)) (uf0_ bf) hg (Kd.R_ne zp.out bf.out (by decide))); replace HB := Aside0.mk (hb); have tw := Aside0.mk (ho); clear zp; clear ho hb hg hat; obtain ⟨bw, bt, qk⟩ := Kd.R_slice tw.out; subst qk) | ((with_reducible refine gate_dst (N := 36) rfl ?_); refine Kd.N_lit (Kd.slice 3 (Kd.int .i64)) _ 22 ?hg (N' := 36) ?hd (xs := ([r6] : List (List Int))) (inner := [.slice bw r6.length bt]) (ok := (fun k_ => (w.heap.size ≤ k_) ∧ some k_ ≠ (kb : Value).ownBlock ∧ k_ ≠ b9)) (okp := (fun k_ => (w.heap.size ≤ k_) ∧ some k_ ≠ (kb : Value).ownBlock ∧ k_ ≠ b9)) ?hr ?hp (fun _ hk => hk) ((show ∀ k_, w24.heap.size ≤ k_ → (fun k_ => (w.heap.size ≤ k_) ∧ some k_ ≠ (kb : Value).ownBlock ∧ k_ ≠ b9) k_ from fun k_ hk => ⟨(Nat.le_trans (below_size (b5)) hk), Kd.fresh' (Kd.N_lt (uf4_ cm)) k_ hk, Kd.freshB (g := b9) (o := .cells #[.slice af ab.length ae, .slice ah aa.length ag] 25 (0, 0)) (uf0_ bf) k_ hk⟩) _ (Nat.le_refl _)) (Below.refl _ _) (Nat.le_refl _) (by simp) ?_; (case hd => rfl); (case hg => rfl); (case hr => first | (go_simp; done) | (go_simp; rfl)); (case hp => exact (Reps.one (show Kd.FK (Kd.slice 3 (Kd.int .i64)) _ _ r6 [.slice bw r6.length bt] from (Kd.FK_slice_mk (Kd.R_reads' (Kd.R_mono (ok' := (fun k_ => (w.heap.size ≤ k_) ∧ some k_ ≠ (kb : Value).ownBlock ∧ k_ ≠ b9)) (Kd.R_types (Kd.R_apart' (tw.out) (Kd.N_typed cm.out) (by decide)) bf.out (by decide)) (fun k_ hk => ⟨hk.1.1, ⟨hk.1.2, hk.2⟩⟩))).2.1 (Kd.R_F (Kd.R_mono (ok' := (fun k_ => (w.heap.size ≤ k_) ∧ some k_ ≠ (kb : Value).ownBlock ∧ k_ ≠ b9)) (Kd.R_types (Kd.R_apart' (tw.out) (Kd.N_typed cm.out) (by decide)) bf.out (by decide)) (fun k_ hk => ⟨hk.1.1, ⟨hk.1.2, hk.2⟩⟩))))) (Reps.none _ _))); intro ei2 w26 iz hb hg_ hnew_; clear hg_ hnew_; (first | rw [← bf6.out] at iz | (simp only [Int.reduceToNat] at iz; rw [← bf6.out] at iz)); replace cm := Aside0.mk (Kd.N_elder' (uf4_ cm) (Kd.N_base iz) hb); have tx := Aside0.mk (Kd.N_lower iz (below_size (b5))); replace bf := bb_ bf hb; replace HB := Aside0.mk (below_step (b5) hb); clear tw; clear hb iz; obtain ⟨ei3, ei4, by0⟩ := Kd.N_slice tx.out; subst by0) | ((with_reducible refine gate_builtin (b := .append) (xs := #[.tmp 32, .tmp 36]) rfl ?_); at_builtin; refine Kd.N_append_rows (Kd.slice 3 (Kd.int .i64)) (w0 := w) w.heap.size rfl (.tmp 32) (.tmp 36) 23 22 (.slice none 0 0) 24 rfl Try.underlying23 info22 rfl (by decide) (by omega) kb ig ng _ _ _ (fun k_ => (w.heap.size ≤ k_) ∧ k_ ≠ b9) (fun k_ => ((fun k_ => (w.heap.size ≤ k_) ∧ k_ ≠ b9)) k_ ∧ some k_ ≠ (kb : Value).ownBlock) rfl rfl ?aO ?aR (fun _ hk => hk) ?aF ?aB ?aS ?aL ?_; (case aR => exact (by skip; exact Kd.N_F (Kd.N_mono (ok' := (fun k_ => ((fun k_ => (w.heap.size ≤ k_) ∧ k_ ≠ b9)) k_ ∧ some k_ ≠ (kb : Value).ownBlock)) (tx.out) (fun k_ hk => ⟨⟨hk.1, hk.2.2⟩, hk.2.1⟩)))); (case aB => exact (b5)); (case aF => exact (fun k_ hk => ⟨(Nat.le_trans (below_size (b5)) hk), Kd.freshB (g := b9) (o := .cells #[.slice af ab.length ae, .slice ah aa.length ag] 25 (0, 0)) (uf0_ bf) k_ hk⟩)); (case aO => exact (by (with_reducible repeat (first | apply Kd.N_alloc | apply Kd.N_drewN | apply Kd.N_drew)); exact Kd.N_mono cm.out (fun _ hk => ⟨hk.1.1.1, hk.1.1.2⟩))); (case aS => exact (below_size (b5))); (case aL => have := cy2.out; omega); intro ei5 w28 ho hb hg hat; rw [← cy4.out] at ho; replace bf := Aside0.mk (blk_grown (g := b9) (o := .cells #[.slice af ab.length ae, .slice ah aa.length ag] 25 (0, 0)) (uf0_ bf) hg (Kd.N_ne cm.out bf.out (by decide))); replace tx := Aside0.mk (Kd.N_afterv (ok := (fun k_ => (w.heap.size ≤ k_) ∧ k_ ≠ b9)) (by (with_reducible repeat (first | apply Kd.N_alloc | apply Kd.N_drewN | apply Kd.N_drew)); exact Kd.N_mono tx.out (fun _ hk => ⟨⟨hk.1, hk.2.2⟩, hk.2.1⟩)) hg hat); replace HB := Aside0.mk (hb); have cy5 := Aside0.mk (ho); clear cm; clear ho hb hg hat)); (repeat ((first | go_step3 | rw [Exit.noGoto_normal] | rw [Exit.noGoto_exit] | rw [Exit.noGoto_ret]); go_wp2_with (first | ((with_reducible refine gate_dst (N := 33) rfl ?_); refine Kd.R_lit (Kd.int .i64) _ 3 ?hg (N := 33) ?hd (xs := ([] : List Int)) (inner := []) (ok := fun _ => True) (okp := fun _ => True) ?hr ?hp (fun _ hk => hk) trivial (Below.refl _ _) (Nat.le_refl _) (by simp) ?_; (case hd => rfl); (case hg => rfl); (case hr => first | (go_simp; done) | (go_simp; rfl)); (case hp => exact (Reps.none _ _)); intro bx9 w22 i0 hb hg_ hnew_; clear hg_ hnew_; (first | rw [← bf4.out] at i0 | (simp only [Int.reduceToNat] at i0; rw [← bf4.out] at i0)); replace cm := Aside0.mk (Kd.N_elder' (uf4_ cm) (Kd.R_base i0) hb); have zp := Aside0.mk (Kd.R_lower (Kd.R_newM (M := fun k_ => (w.heap.size ≤ k_)) i0 (below_size (b5)) (fun k_ h_ => h_)) (below_size (b5))); replace bf := bb_ bf hb; replace HB := Aside0.mk (below_step (b5) hb); clear hb i0) | ((with_reducible refine gate_builtin (b := .append) (xs := #[.tmp 33, .tmp 34]) rfl ?_); at_builtin; refine Kd.R_append_rows (Kd.int .i64) (w0 := w) w.heap.size rfl (.tmp 33) (.tmp 34) 22 3 (.int .i64 0) 8 rfl Try.underlying22 info3 rfl (by decide) (by omega) bx9 vr l1 _ _ _ (fun k_ => (w.heap.size ≤ k_)) (fun _ => False) rfl rfl ?aO ?aR (fun _ _ h => h) (fun _ h => h.elim) ?aF ?aB ?aS ?aL ?_; (case aR => exact uf2_ eh); (case aB => exact (b5)); (case aF => exact (fun k_ hk => (Nat.le_trans (below_size (b5)) hk))); (case aO => exact (by (with_reducible repeat (first | apply Kd.R_alloc | apply Kd.R_drewN | apply Kd.R_drew)); exact Kd.R_mono zp.out (fun _ hk => hk.1))); (case aS => exact (below_size (b5))); (case aL => have := bf5.out; omega); intro ei1 w24 ho hb hg hat; rw [← cy1.out] at ho; replace cm := Aside0.mk (Kd.N_afterv (ok := (fun k_ => (w.heap.size ≤ k_) ∧ k_ ≠ b9)) (uf4_ cm) hg hat); replace bf := Aside0.mk (blk_grown (g := b9) (o := .cells #[.slice af ab.length ae, .slice ah aa.length ag] 25 (0, 0)) (uf0_ bf) hg (Kd.R_ne zp.out bf.out (by decide))); replace HB := Aside0.mk (hb); have tw := Aside0.mk (ho); clear zp; clear ho hb hg hat; obtain ⟨bw, bt, qk⟩ := Kd.R_slice tw.out; subst qk) | ((with_reducible refine gate_dst (N := 36) rfl ?_); refine Kd.N_lit (Kd.slice 3 (Kd.int .i64)) _ 22 ?hg (N' := 36) ?hd (xs := ([r6] : List (List Int))) (inner := [.slice bw r6.length bt]) (ok := (fun k_ => (w.heap.size ≤ k_) ∧ some k_ ≠ (kb : Value).ownBlock ∧ k_ ≠ b9)) (okp := (fun k_ => (w.heap.size ≤ k_) ∧ some k_ ≠ (kb : Value).ownBlock ∧ k_ ≠ b9)) ?hr ?hp (fun _ hk => hk) ((show ∀ k_, w24.heap.size ≤ k_ → (fun k_ => (w.heap.size ≤ k_) ∧ some k_ ≠ (kb : Value).ownBlock ∧ k_ ≠ b9) k_ from fun k_ hk => ⟨(Nat.le_trans (below_size (b5)) hk), Kd.fresh' (Kd.N_lt (uf4_ cm)) k_ hk, Kd.freshB (g := b9) (o := .cells #[.slice af ab.length ae, .slice ah aa.length ag] 25 (0, 0)) (uf0_ bf) k_ hk⟩) _ (Nat.le_refl _)) (Below.refl _ _) (Nat.le_refl _) (by simp) ?_; (case hd => rfl); (case hg => rfl); (case hr => first | (go_simp; done) | (go_simp; rfl)); (case hp => exact (Reps.one (show Kd.FK (Kd.slice 3 (Kd.int .i64)) _ _ r6 [.slice bw r6.length bt] from (Kd.FK_slice_mk (Kd.R_reads' (Kd.R_mono (ok' := (fun k_ => (w.heap.size ≤ k_) ∧ some k_ ≠ (kb : Value).ownBlock ∧ k_ ≠ b9)) (Kd.R_types (Kd.R_apart' (tw.out) (Kd.N_typed cm.out) (by decide)) bf.out (by decide)) (fun k_ hk => ⟨hk.1.1, ⟨hk.1.2, hk.2⟩⟩))).2.1 (Kd.R_F (Kd.R_mono (ok' := (fun k_ => (w.heap.size ≤ k_) ∧ some k_ ≠ (kb : Value).ownBlock ∧ k_ ≠ b9)) (Kd.R_types (Kd.R_apart' (tw.out) (Kd.N_typed cm.out) (by decide)) bf.out (by decide)) (fun k_ hk => ⟨hk.1.1, ⟨hk.1.2, hk.2⟩⟩))))) (Reps.none _ _))); intro ei2 w26 iz hb hg_ hnew_; clear hg_ hnew_; (first | rw [← bf6.out] at iz | (simp only [Int.reduceToNat] at iz; rw [← bf6.out] at iz)); replace cm := Aside0.mk (Kd.N_elder' (uf4_ cm) (Kd.N_base iz) hb); have tx := Aside0.mk (Kd.N_lower iz (below_size (b5))); replace bf := bb_ bf hb; replace HB := Aside0.mk (below_step (b5) hb); clear tw; clear hb iz; obtain ⟨ei3, ei4, by0⟩ := Kd.N_slice tx.out; subst by0) | ((with_reducible refine gate_builtin (b := .append) (xs := #[.tmp 32, .tmp 36]) rfl ?_); at_builtin; refine Kd.N_append_rows (Kd.slice 3 (Kd.int .i64)) (w0 := w) w.heap.size rfl (.tmp 32) (.tmp 36) 23 22 (.slice none 0 0) 24 rfl Try.underlying23 info22 rfl (by decide) (by omega) kb ig ng _ _ _ (fun k_ => (w.heap.size ≤ k_) ∧ k_ ≠ b9) (fun k_ => ((fun k_ => (w.heap.size ≤ k_) ∧ k_ ≠ b9)) k_ ∧ some k_ ≠ (kb : Value).ownBlock) rfl rfl ?aO ?aR (fun _ hk => hk) ?aF ?aB ?aS ?aL ?_; (case aR => exact (by skip; exact Kd.N_F (Kd.N_mono (ok' := (fun k_ => ((fun k_ => (w.heap.size ≤ k_) ∧ k_ ≠ b9)) k_ ∧ some k_ ≠ (kb : Value).ownBlock)) (tx.out) (fun k_ hk => ⟨⟨hk.1, hk.2.2⟩, hk.2.1⟩)))); (case aB => exact (b5)); (case aF => exact (fun k_ hk => ⟨(Nat.le_trans (below_size (b5)) hk), Kd.freshB (g := b9) (o := .cells #[.slice af ab.length ae, .slice ah aa.length ag] 25 (0, 0)) (uf0_ bf) k_ hk⟩)); (case aO => exact (by (with_reducible repeat (first | apply Kd.N_alloc | apply Kd.N_drewN | apply Kd.N_drew)); exact Kd.N_mono cm.out (fun _ hk => ⟨hk.1.1.1, hk.1.1.2⟩))); (case aS => exact (below_size (b5))); (case aL => have := cy2.out; omega); intro ei5 w28 ho hb hg hat; rw [← cy4.out] at ho; replace bf := Aside0.mk (blk_grown (g := b9) (o := .cells #[.slice af ab.length ae, .slice ah aa.length ag] 25 (0, 0)) (uf0_ bf) hg (Kd.N_ne cm.out bf.out (by decide))); replace tx := Aside0.mk (Kd.N_afterv (ok := (fun k_ => (w.heap.size ≤ k_) ∧ k_ ≠ b9)) (by (with_reducible repeat (first | apply Kd.N_alloc | apply Kd.N_drewN | apply Kd.N_drew)); exact Kd.N_mono tx.out (fun _ hk => ⟨⟨hk.1, hk.2.2⟩, hk.2.1⟩)) hg hat); replace HB := Aside0.mk (hb); have cy5 := Aside0.mk (ho); clear cm; clear ho hb hg hat))))
     go_meet
     case rel => exact ⟨_, (cy3), H', ⟨by have := HJ5.out; first | omega | exact Nat.le_refl _⟩, ⟨uf4_ cy5⟩, ⟨uf0_ bf⟩, ⟨b5⟩⟩
    ·replace dr := Bool.eq_false_iff.mpr dr
     subst dr
     replace H := ifn_ H
     have H' := Aside0.mk H
     clear H
     go_wp2; (repeat ((first | go_step3 | rw [Exit.noGoto_normal] | rw [Exit.noGoto_exit] | rw [Exit.noGoto_ret]); go_wp2))
     go_meet
     case rel => exact ⟨_, (ig), H', ⟨by have := HJ5.out; first | omega | exact Nat.le_refl _⟩, ⟨uf4_ cm⟩, ⟨uf0_ bf⟩, ⟨b5⟩⟩
   case rest =>
    clear bx8
    try clear c1
    try clear c2
    try clear p2
    try clear q2
    try clear hx2
    try clear qi2
    try clear c4
    try clear i8
    try clear c5
    try clear ev
    try clear p6
    try clear db
    try clear ia
    try clear zi
    try clear d5
    try clear mb
    try clear d2
    try clear lm
    try clear fu
    try clear ta
    try clear am5
    try clear f2
    try clear pv
    try clear cb
    try clear gv
    try clear dr
    try clear fk
    try clear jq
    try clear gw
    try clear p24
    try clear q24
    try clear cy6
    try clear qi24
    try clear tv
    try clear vs
    try clear r5
    try clear vt
    try clear p2
    try clear qi
    try clear zj
    try clear zl
    try clear zn
    try clear p6
    try clear q2
    try clear qj
    try clear zk
    try clear zm
    try clear zo
    obtain ⟨kq, bf3, HA, HJ17, cm, bf, HB⟩ := hcut
    cases kq with
    | zero => exact absurd HA.out (by simp [spec_l3Paths.j1])
    | succ kj17 =>
     have H := HA.out
     clear HA
     simp only [spec_l3Paths.j1] at H
     obtain ⟨od, H⟩ := pos_ H
     have ao8 := decide_eq_true od
     have by1 : decide (0 < l1.length) = true := decide_eq_true (by omega)
     clear od
     have H' := Aside0.mk H
     clear H
     have ao9 : 0 ≤ (0 : Int) := (by omega)
     have ap0 : 0 < (l1.length : Int) := of_decide_eq_true (g0_)
     obtain ⟨ei6, ei7, af2⟩ := Kd.at_int eh.out 0 ao9 ap0
     obtain rfl : af1 = ei6 := (by injection ei7)
     have qi261 : (0 < l1.length) = True := eq_true (by omega)
     (try rw [show ((0 : Int)).toNat = 0 from rfl] at af2)
     (try rw [Addr.add_zero'] at af2)
     replace af2 := cl_ HB af2
     replace ao9 := eq_true ao9
     replace ap0 := eq_true ap0
     go_wp2; (repeat ((first | go_step3 | rw [Exit.noGoto_normal] | rw [Exit.noGoto_exit] | rw [Exit.noGoto_ret]); go_wp2))
     go_loopg [5, 7] kj17 (fun kq v5 v7 w' => ∃ (gm : List (List Int)) (dz : Int), v7 = .int .i64 dz ∧ Aside0 (spec_l3Paths.l0 kq l1 gm (rd l1 (ji3)) dz ab aa = some r) ∧ Aside0 (kq ≤ kj17) ∧ Aside0 (Kd.N (Kd.slice 3 (Kd.int .i64)) 22 w' w.heap.size (fun k_ => (w.heap.size ≤ k_) ∧ k_ ≠ b9) v5 gm) ∧ Aside0 (w'.heap[b9]? = some (.cells #[(.slice af ab.length ae), (.slice ah aa.length ag)] 25 (0, 0))) ∧ Aside0 (Below w.heap.size w w'))
     case atStart => exact ⟨(bf3), (wrap64 ((rd l1 0) + 1)), (g2_), H', ⟨Nat.le_refl _⟩, ⟨uf4_ cm⟩, ⟨uf0_ bf⟩, ⟨b5⟩⟩
     case round =>
      clear H'
      try clear c1
      try clear c2
      try clear p2
      try clear q2
      try clear hx2
      try clear qi2
      try clear c3
      try clear c4
      try clear i8
      try clear c5
      try clear ev
      try clear p6
      try clear db
      try clear ia
      try clear zi
      try clear d5
      try clear mb
      try clear d2
      try clear lm
      try clear fu
      try clear ta
      try clear am5
      try clear f2
      try clear pv
      try clear cb
      try clear gv
      try clear dr
      try clear fk
      try clear jq
      try clear gw
      try clear p24
      try clear q24
      try clear cy6
      try clear qi24
      try clear p26
      try clear q26
      try clear ei8
      try clear qi26
      try clear od
      try clear ao8
      try clear by1
      try clear tv
      try clear vs
      try clear r5
      try clear vt
      try clear af2
      try clear p2
      try clear p24
      try clear qi
      try clear zj
      try clear zl
      try clear zn
      try clear ao9
      try clear p6
      try clear q2
      try clear q24
      try clear qj
      try clear zk
      try clear zm
      try clear zo
      try clear ap0
      obtain ⟨gm, dz, rfl, HA, HK3, cm, bf, HB⟩ := hrel
      cases gk with
      | zero => exact absurd HA.out (by simp [spec_l3Paths.l0])
      | succ k3 =>
       have H := HA.out
       clear HA
       simp only [spec_l3Paths.l0] at H
       by_cases jt : dz < (ab.length : Int)
       ·rw [if_pos jt] at H
        have bf7 := decide_eq_true jt
        clear jt
        obtain ⟨ni, H⟩ := pos_ H
        have by2 := decide_eq_true ni
        clear ni
        obtain ⟨pe, H⟩ := pos_ H
        have by3 := decide_eq_true pe
        clear pe
        obtain ⟨jr, H⟩ := pos_ H
        have bc8 := decide_eq_true jr
        clear jr
        obtain ⟨g9, H⟩ := pos_ H
        have an1 := decide_eq_true g9
        clear g9
        by_cases ky : (rd (rd_L1 aa (rd l1 (ji3))) dz) = 0
        ·rw [if_pos ky] at H
         have bf8 : ((rd (rd_L1 aa (rd l1 (ji3))) dz) == 0) = true := beq_iff_eq.mpr ky
         have cy7 : ((rd (rd_L1 aa (rd l1 (ji3))) dz) != 0) = false := bne_eq_false_iff_eq.mpr ky
         clear ky
         have H' := Aside0.mk H
         clear H
         obtain ⟨ei9, ej0, ej1, ej2⟩ := blk2_ bf
         have vu : 0 ≤ ((rd l1 (ji3)) : Int) := of_decide_eq_true (g0_)
         have vv : (rd l1 (ji3)) < (aa.length : Int) := of_decide_eq_true (g0_)
         obtain ⟨mh, ej3, ej4, by4, af3, ap1, ap2⟩ := at_L1 bz.out (rd l1 (ji3)) vu vv
         cases by4
         replace af3 := cl_ HB af3
         have by5 := Aside0.mk ap2
         have ej5 := Aside0.mk ap1
         clear ap2 ap1
         replace vu := eq_true vu
         replace vv := eq_true vv
         have vw : 0 ≤ (dz : Int) := of_decide_eq_true (g0_)
         have vx : dz < ((rd_L1 aa (rd l1 (ji3))).length : Int) := of_decide_eq_true (g0_)
         obtain ⟨ej6, by6, af4⟩ := Kd.at_int by5.out dz vw vx
         cases by6
         replace af4 := cl_ HB af4
         replace vw := eq_true vw
         replace vx := eq_true vx
         go_wp2; (repeat ((first | go_step3 | rw [Exit.noGoto_normal] | rw [Exit.noGoto_exit] | rw [Exit.noGoto_ret]); go_wp2))
         go_roundg k3
         case measure => have := HJ5.out; have := HJ17.out; have := HK3.out; omega
         case rel => exact ⟨(gm), (wrap64 (dz + 1)), (g2_), H', ⟨by have := HJ5.out; have := HJ17.out; have := HK3.out; omega⟩, ⟨uf4_ cm⟩, ⟨uf0_ bf⟩, ⟨b5⟩⟩
        ·rw [if_neg ky] at H
         have bf8 : ((rd (rd_L1 aa (rd l1 (ji3))) dz) == 0) = false := beq_eq_false_iff_ne.mpr ky
         have cy7 : ((rd (rd_L1 aa (rd l1 (ji3))) dz) != 0) = true := bne_iff_ne.mpr ky
         have H' := Aside0.mk H
         clear H
         obtain ⟨ty, tz, t1, t2⟩ := blk2_ bf
         have vu : 0 ≤ ((rd l1 (ji3)) : Int) := of_decide_eq_true (g0_)
         have vv : (rd l1 (ji3)) < (aa.length : Int) := of_decide_eq_true (g0_)
         obtain ⟨mh, ej3, ej4, by4, af3, ap1, ap2⟩ := at_L1 bz.out (rd l1 (ji3)) vu vv
         cases by4
         replace af3 := cl_ HB af3
         have by5 := Aside0.mk ap2
         have ej5 := Aside0.mk ap1
         clear ap2 ap1
         replace vu := eq_true vu
         replace vv := eq_true vv
         have vw : 0 ≤ (dz : Int) := of_decide_eq_true (g0_)
         have vx : dz < ((rd_L1 aa (rd l1 (ji3))).length : Int) := of_decide_eq_true (g0_)
         obtain ⟨ej6, by6, af4⟩ := Kd.at_int by5.out dz vw vx
         cases by6
         replace af4 := cl_ HB af4
         replace vw := eq_true vw
         replace vx := eq_true vx
         go_wp2; (repeat ((first | go_step3 | rw [Exit.noGoto_normal] | rw [Exit.noGoto_exit] | rw [Exit.noGoto_ret]); go_wp2))
         go_loopg [8] k3 (fun kq v8 w' => ∃ (lu : Int), v8 = .int .i64 lu ∧ Aside0 (spec_l3Paths.l1 kq l1 gm (rd l1 (ji3)) dz lu ab aa = some r) ∧ Aside0 (kq ≤ k3) ∧ Aside0 (Kd.N (Kd.slice 3 (Kd.int .i64)) 22 w' w.heap.size (fun k_ => (w.heap.size ≤ k_) ∧ k_ ≠ b9) u5 gm) ∧ Aside0 (w'.heap[b9]? = some (.cells #[(.slice af ab.length ae), (.slice (some mh) aa.length ag)] 25 (0, 0))) ∧ Aside0 (Below w.heap.size w w'))
         case atStart => exact ⟨(0), (g2_), H', ⟨Nat.le_refl _⟩, ⟨uf4_ cm⟩, ⟨uf0_ bf⟩, ⟨b5⟩⟩
         case round =>
          clear H'
          (try clear c1); (try clear c2); (try clear p2); (try clear q2); (try clear hx2); (try clear qi2); (try clear c3); (try clear c4); (try clear i8); (try clear c5); (try clear ev); (try clear p6); (try clear db); (try clear ia); (try clear zi); (try clear d5); (try clear mb); (try clear d2); (try clear lm); (try clear fu); (try clear ta); (try clear am5); (try clear f2); (try clear pv); (try clear cb); (try clear gv); (try clear dr); (try clear fk); (try clear jq); (try clear gw); (try clear p24); (try clear q24); (try clear cy6); (try clear qi24); (try clear o1); (try clear p26); (try clear q26); (try clear ei8); (try clear qi26); (try clear od); (try clear ao8); (try clear by1); (try clear jt); (try clear bf7); (try clear ni); (try clear by2); (try clear pe); (try clear by3); (try clear jr); (try clear bc8); (try clear g9); (try clear an1); (try clear ky); (try clear bf8); (try clear cy7); (try clear ei9); (try clear ej0); (try clear ty); (try clear tz); (try clear ej1); (try clear ej2); (try clear t1); (try clear t2); (try clear tv); (try clear vs); (try clear r5); (try clear vt); (try clear af2); (try clear af3); (try clear af4); (try clear p2); (try clear p24); (try clear qi); (try clear zj); (try clear zl); (try clear zn); (try clear p26); (try clear ao9); (try clear vu); (try clear vw); (try clear p6); (try clear q2); (try clear q24); (try clear qj); (try clear zk); (try clear zm); (try clear zo); (try clear q26); (try clear ap0); (try clear vv); try clear vx
          obtain ⟨lu, rfl, HA, HK4, cm, bf, HB⟩ := hrel
          cases gk with
          | zero => exact absurd HA.out (by simp [spec_l3Paths.l1])
          | succ k4 =>
           have H := HA.out
           clear HA
           simp only [spec_l3Paths.l1] at H
           by_cases n8 : lu < (l1.length : Int)
           ·rw [if_pos n8] at H
            have bv1 := decide_eq_true n8
            clear n8
            obtain ⟨lv, H⟩ := pos_ H
            have fs2 := decide_eq_true lv
            clear lv
            by_cases gc : (rd l1 lu) = dz
            ·rw [if_pos gc] at H
             have zq : ((rd l1 lu) == dz) = true := beq_iff_eq.mpr gc
             have ej7 : ((rd l1 lu) != dz) = false := bne_eq_false_iff_eq.mpr gc
             clear gc
             have H' := Aside0.mk H
             clear H
             have zr : 0 ≤ (lu : Int) := of_decide_eq_true (g0_)
             have zt : lu < (l1.length : Int) := of_decide_eq_true (g0_)
             obtain ⟨by7, by8, ap3⟩ := Kd.at_int eh.out lu zr zt
             obtain rfl : af1 = by7 := (by injection by8)
             replace ap3 := cl_ HB ap3
             replace zr := eq_true zr
             replace zt := eq_true zt
             go_wp2; (repeat ((first | go_step3 | rw [Exit.noGoto_normal] | rw [Exit.noGoto_exit] | rw [Exit.noGoto_ret]); go_wp2))
             go_roundg k4
             case measure => have := HJ5.out; have := HJ17.out; have := HK3.out; have := HK4.out; omega
             case rel => exact ⟨(gm), (wrap64 (dz + 1)), (g2_), H', ⟨g61_⟩, ⟨uf4_ cm⟩, ⟨uf0_ bf⟩, ⟨b5⟩⟩
            ·rw [if_neg gc] at H
             have zq : ((rd l1 lu) == dz) = false := beq_eq_false_iff_ne.mpr gc
             have ej7 : ((rd l1 lu) != dz) = true := bne_iff_ne.mpr gc
             have H' := Aside0.mk H
             clear H
             have zr : 0 ≤ (lu : Int) := of_decide_eq_true (g0_)
             have zt : lu < (l1.length : Int) := of_decide_eq_true (g0_)
             obtain ⟨by7, by8, ap3⟩ := Kd.at_int eh.out lu zr zt
             obtain rfl : af1 = by7 := (by injection by8)
             replace ap3 := cl_ HB ap3
             replace zr := eq_true zr
             replace zt := eq_true zt
             go_wp2; (repeat ((first | go_step3 | rw [Exit.noGoto_normal] | rw [Exit.noGoto_exit] | rw [Exit.noGoto_ret]); go_wp2))
             go_roundg k4
             case measure => have := HJ5.out; have := HJ17.out; have := HK3.out; have := HK4.out; omega
             case rel => exact ⟨(wrap64 (lu + 1)), (g2_), H', ⟨g61_⟩, ⟨uf4_ cm⟩, ⟨uf0_ bf⟩, ⟨b5⟩⟩
           ·rw [if_neg n8] at H
            have bv1 := decide_eq_false n8
            clear n8
            obtain ⟨tt, hy265⟩ : ∃ y_ : List Int, y_ = (([] : List Int)) := ⟨_, rfl⟩
            replace H : (if tt.length + l1.length < 17592186044416 then ((some (tt ++ l1 : List Int)).bind fun nh => ((some (([dz] : List Int) : List Int)).bind fun ie => (if nh.length + ie.length < 17592186044416 then ((spec_l3Paths.f k4 ab aa (nh ++ ie)).bind fun ka => (if gm.length + ka.length < 5864062014805 then (spec_l3Paths.l0 k4 l1 (gm ++ ka) (rd l1 (ji3)) (wrap64 (dz + 1)) ab aa) else (none))) else (none)))) else (none)) = some r := by first | (rw [hy265]; with_reducible exact H) | (have H2_ := (Option.bind_some _ _).symm.trans H; rw [hy265]; with_reducible exact H2_) | (have H2_ := (Option.bind_some _ _).symm.trans H; with_reducible exact H2_) | with_reducible exact H | (rw [hy265]; exact H) | exact H
            have bf9 := Aside0.mk hy265
            clear hy265
            obtain ⟨nj, H⟩ := pos_ H
            have by9 := Aside0.mk nj
            clear nj
            obtain ⟨nh, hy268⟩ : ∃ y_ : List Int, y_ = (tt ++ l1) := ⟨_, rfl⟩
            replace H : ((some (([dz] : List Int) : List Int)).bind fun ie => (if nh.length + ie.length < 17592186044416 then ((spec_l3Paths.f k4 ab aa (nh ++ ie)).bind fun ka => (if gm.length + ka.length < 5864062014805 then (spec_l3Paths.l0 k4 l1 (gm ++ ka) (rd l1 (ji3)) (wrap64 (dz + 1)) ab aa) else (none))) else (none))) = some r := by first | (rw [hy268]; with_reducible exact H) | (have H2_ := (Option.bind_some _ _).symm.trans H; rw [hy268]; with_reducible exact H2_) | (have H2_ := (Option.bind_some _ _).symm.trans H; with_reducible exact H2_) | with_reducible exact H | (rw [hy268]; exact H) | exact H
            have bz0 := Aside0.mk hy268
            clear hy268
            obtain ⟨ie, hy271⟩ : ∃ y_ : List Int, y_ = (([dz] : List Int)) := ⟨_, rfl⟩
            replace H : (if nh.length + ie.length < 17592186044416 then ((spec_l3Paths.f k4 ab aa (nh ++ ie)).bind fun ka => (if gm.length + ka.length < 5864062014805 then (spec_l3Paths.l0 k4 l1 (gm ++ ka) (rd l1 (ji3)) (wrap64 (dz + 1)) ab aa) else (none))) else (none)) = some r := by first | (rw [hy271]; with_reducible exact H) | (have H2_ := (Option.bind_some _ _).symm.trans H; rw [hy271]; with_reducible exact H2_) | (have H2_ := (Option.bind_some _ _).symm.trans H; with_reducible exact H2_) | with_reducible exact H | (rw [hy271]; exact H) | exact H
            have af5 := Aside0.mk hy271
            clear hy271
            obtain ⟨zu, H⟩ := pos_ H
            have ej8 := Aside0.mk zu
            clear zu
            obtain ⟨vy, hy274⟩ : ∃ y_ : List Int, y_ = (nh ++ ie) := ⟨_, rfl⟩
            replace H : ((spec_l3Paths.f k4 ab aa vy).bind fun ka => (if gm.length + ka.length < 5864062014805 then (spec_l3Paths.l0 k4 l1 (gm ++ ka) (rd l1 (ji3)) (wrap64 (dz + 1)) ab aa) else (none))) = some r := by first | (rw [hy274]; with_reducible exact H) | (have H2_ := (Option.bind_some _ _).symm.trans H; rw [hy274]; with_reducible exact H2_) | (have H2_ := (Option.bind_some _ _).symm.trans H; with_reducible exact H2_) | with_reducible exact H | (rw [hy274]; exact H) | exact H
            have ej9 := Aside0.mk hy274
            clear hy274
            obtain ⟨ka, A44, H⟩ := bind_ H
            obtain ⟨c45, H⟩ := pos_ H
            have bv3 := Aside0.mk c45
            clear c45
            obtain ⟨cy8, hy280⟩ : ∃ y_ : List (List Int), y_ = (gm ++ ka) := ⟨_, rfl⟩
            replace H : (spec_l3Paths.l0 k4 l1 cy8 (rd l1 (ji3)) (wrap64 (dz + 1)) ab aa) = some r := by first | (rw [hy280]; with_reducible exact H) | (have H2_ := (Option.bind_some _ _).symm.trans H; rw [hy280]; with_reducible exact H2_) | (have H2_ := (Option.bind_some _ _).symm.trans H; with_reducible exact H2_) | with_reducible exact H | (rw [hy280]; exact H) | exact H
            have ek0 := Aside0.mk hy280
            clear hy280
            have H' := Aside0.mk H
            clear H
            obtain ⟨af6, af7, ek1⟩ := Kd.N_slice cm.out
            subst ek1
            try go_wp2
            replace cm := Aside0.mk (Kd.N_drew cm.out)
            replace bf := Aside0.mk (blk_drew bf.out)
            replace HB := Aside0.mk (below_drew1 HB.out)
            refine start_ (n := 11) (S := fun w' => w'.cell? ⟨b9, 0, none⟩ = some (.slice af ab.length ae) ∧ w'.cell? ⟨b9, 1, none⟩ = some (.slice (some mh) aa.length ag)) (ds := []) (tl_ 11 0) (g1_) rfl (g1_) ⟨(blk_cell bf.out 0).trans rfl, (blk_cell bf.out 1).trans rfl⟩ (fun hHeld => ?_); refine with_tabW spec_l3Paths.tab13 spec_l3Paths.bits13 (fun HT_ HW_ => ?_)
            generalize wr.drew = w47 at cm bf HB hHeld ⊢
            refine pw_ 0 70 (tl_ 11 1) rfl rfl ?_
            refine pw_ 3 73 (tl_ 11 9) rfl rfl ?_
            refine pw_ 5 75 (tl_ 11 41) rfl rfl ?_
            refine tk0_ 1 71 (tl_ 11 43) rfl rfl hHeld ?_
            refine join_ (σ := Value × Value × Value) 4 (tl_ 11 127) (fun s_ => [(72, s_.1), (74, s_.2.1), (76, s_.2.2)]) (fun s_ w' => (w'.cell? ⟨b9, 0, none⟩ = some (.slice af ab.length ae) ∧ w'.cell? ⟨b9, 1, none⟩ = some (.slice (some mh) aa.length ag)) ∧ (Kd.R (Kd.int .i64) 3 w' w.heap.size (fun k_ => (w.heap.size ≤ k_) ∧ some k_ ≠ (s_.2.2 : Value).ownBlock) s_.2.1 nh) ∧ (Kd.R (Kd.int .i64) 3 w' w.heap.size (fun k_ => (w.heap.size ≤ k_) ∧ some k_ ≠ (s_.2.1 : Value).ownBlock) s_.2.2 ie) ∧ (Kd.N (Kd.slice 3 (Kd.int .i64)) 22 w' w.heap.size (fun k_ => (w.heap.size ≤ k_) ∧ some k_ ≠ (s_.2.1 : Value).ownBlock ∧ some k_ ≠ (s_.2.2 : Value).ownBlock ∧ k_ ≠ b9) (.slice af6 gm.length af7) gm) ∧ (w'.heap[b9]? = some (.cells #[.slice af ab.length ae, .slice (some mh) aa.length ag] 25 (0, 0))) ∧ (Below w.heap.size w w')) ?_ ?_
            rotate_left
            ·intro hCont
             refine two_ (i := 2) (j := 6) (Ni := some 72) (Nj := some 76) (tl_ 11 47) (tl_ 11 107) rfl rfl rfl rfl (two_of HT_.out (g1_)) (by decide) (by decide) (fun K hK => ?_) (fun K hK => ?_)
             ·skip
              refine Kd.R_lit_step (Kd.int .i64) _ 3 ?hg (N := 72) ?hd (xs := ([] : List Int)) (inner := []) (ok := fun _ => True) (okp := fun _ => True) ?hr ?hp (fun _ hk => hk) trivial (Below.refl _ _) (Nat.le_refl _) (by simp) ?_; (case hd => rfl); (case hg => rfl); (case hr => first | (go_simp; done) | (go_simp; rfl)); (case hp => exact (Reps.none _ _))
              intro vz w48 oe hb hg_ hnew_
              clear hg_ hnew_
              (first | rw [← bf9.out] at oe | (simp only [Int.reduceToNat] at oe; rw [← bf9.out] at oe))
              replace cm := Aside0.mk (Kd.N_elder' (uf4_ cm) (Kd.R_base oe) hb)
              have og := Aside0.mk (Kd.R_lower (Kd.R_newM (M := fun k_ => (w.heap.size ≤ k_)) oe (below_size (b5)) (fun k_ h_ => h_)) (below_size (b5)))
              replace bf := bb_ bf hb
              replace HB := Aside0.mk (below_step (b5) hb)
              clear hb oe
              refine hK.out _ _ ⟨(blk_cell bf.out 0).trans rfl, (blk_cell bf.out 1).trans rfl⟩ (fun hHeld => ?_)
              clear hK K
              refine nm_ ?_
              refine two_ (i := 4) (j := 6) (Ni := some 74) (Nj := some 76) (tl_ 11 63) (tl_ 11 111) rfl rfl rfl rfl (two_of HT_.out (g1_)) (by decide) (by decide) (fun K hK => ?_) (fun K hK => ?_)
              ·skip
               refine Kd.R_append_rows_step (Kd.int .i64) (w0 := w) w.heap.size (by rfl) (.tmp 72) (.tmp 73) 22 3 (.int .i64 0) 8 rfl Try.underlying22 info3 rfl (by decide) (by omega) vz tt l1 _ _ _ (fun k_ => (w.heap.size ≤ k_)) (fun _ => False) rfl rfl ?aO ?aR (fun _ _ h => h) (fun _ h => h.elim) ?aF ?aB ?aS ?aL ?_
               (case aR => exact uf2_ eh)
               (case aB => exact (b5))
               (case aF => exact (fun k_ hk => (Nat.le_trans (below_size (b5)) hk)))
               (case aO => exact (by (with_reducible repeat (first | apply Kd.R_alloc | apply Kd.R_drewN | apply Kd.R_drew)); exact Kd.R_mono og.out (fun _ hk => hk.1)))
               (case aS => exact (below_size (b5)))
               (case aL => have := by9.out; omega)
               intro r7 w50 ho hb hg hat
               rw [← bz0.out] at ho
               replace cm := Aside0.mk (Kd.N_afterv (ok := (fun k_ => (w.heap.size ≤ k_) ∧ k_ ≠ b9)) (uf4_ cm) hg hat)
               replace bf := Aside0.mk (blk_grown (g := b9) (o := .cells #[.slice af ab.length ae, .slice (some mh) aa.length ag] 25 (0, 0)) (uf0_ bf) hg (Kd.R_ne og.out bf.out (by decide)))
               replace HB := Aside0.mk (hb)
               have pf := Aside0.mk (ho)
               clear og
               clear ho hb hg hat
               refine hK.out _ _ ⟨(blk_cell bf.out 0).trans rfl, (blk_cell bf.out 1).trans rfl⟩ (fun hHeld => ?_)
               clear hK K
               refine nm_ ?_
               refine one_ (i := 6) (N := some 76) (tl_ 11 127) rfl rfl (one_of HT_.out (g1_)) (by decide) (fun K hK => ?_)
               refine Kd.R_lit_step (Kd.int .i64) _ 3 ?hg (N := 76) ?hd (xs := ([dz] : List Int)) (inner := [.int .i64 dz]) (ok := fun _ => True) (okp := fun _ => True) ?hr ?hp (fun _ hk => hk) trivial (Below.refl _ _) (Nat.le_refl _) (by simp) ?_; (case hd => rfl); (case hg => rfl); (case hr => first | (go_simp; done) | (go_simp; rfl)); (case hp => exact (Reps.one (show Kd.M (Kd.int .i64) _ _ _ dz [.int .i64 dz] from rfl) (Reps.none _ _)))
               intro oh w51 zv hb hg_ hnew_
               clear hg_ hnew_
               (first | rw [← af5.out] at zv | (simp only [Int.reduceToNat] at zv; rw [← af5.out] at zv))
               replace cm := Aside0.mk (Kd.N_elder' (uf4_ cm) (Kd.R_base zv) hb)
               have gz := Aside0.mk (Kd.R_lower (Kd.R_new' (Kd.R_newM (M := fun k_ => (w.heap.size ≤ k_)) zv (below_size (b5)) (fun k_ h_ => h_)) (Kd.R_lt (uf1_ pf))) (below_size (b5)))
               replace pf := Aside0.mk (Kd.R_elder' (uf1_ pf) (Kd.R_base zv) hb)
               replace bf := bb_ bf hb
               replace HB := Aside0.mk (below_step (b5) hb)
               clear hb zv
               refine hK.out _ _ ⟨(blk_cell bf.out 0).trans rfl, (blk_cell bf.out 1).trans rfl⟩ (fun hHeld => ?_)
               clear hK K
               refine nm_ ?_
               exact norm_ (g31_) (hCont (vz, r7, oh) _ ⟨hHeld, (uf1_ pf), (g76_), (by (with_reducible repeat (first | apply Kd.N_alloc | apply Kd.N_drewN | apply Kd.N_drew)); exact Kd.N_mono cm.out (fun _ hk => ⟨hk.1.1.1, ⟨hk.1.2, ⟨hk.2, hk.1.1.2⟩⟩⟩)), (uf0_ bf), (b5)⟩)
              ·skip
               refine Kd.R_lit_step (Kd.int .i64) _ 3 ?hg (N := 76) ?hd (xs := ([dz] : List Int)) (inner := [.int .i64 dz]) (ok := fun _ => True) (okp := fun _ => True) ?hr ?hp (fun _ hk => hk) trivial (Below.refl _ _) (Nat.le_refl _) (by simp) ?_; (case hd => rfl); (case hg => rfl); (case hr => first | (go_simp; done) | (go_simp; rfl)); (case hp => exact (Reps.one (show Kd.M (Kd.int .i64) _ _ _ dz [.int .i64 dz] from rfl) (Reps.none _ _)))
               intro oh w50 mi hb hg_ hnew_
               clear hg_ hnew_
               (first | rw [← af5.out] at mi | (simp only [Int.reduceToNat] at mi; rw [← af5.out] at mi))
               replace cm := Aside0.mk (Kd.N_elder' (uf4_ cm) (Kd.R_base mi) hb)
               have gz := Aside0.mk (Kd.R_lower (Kd.R_new' (Kd.R_newM (M := fun k_ => (w.heap.size ≤ k_)) mi (below_size (b5)) (fun k_ h_ => h_)) (Kd.R_lt (uf1_ og))) (below_size (b5)))
               replace og := Aside0.mk (Kd.R_elder' (uf1_ og) (Kd.R_base mi) hb)
               replace bf := bb_ bf hb
               replace HB := Aside0.mk (below_step (b5) hb)
               clear hb mi
               refine hK.out _ _ ⟨(blk_cell bf.out 0).trans rfl, (blk_cell bf.out 1).trans rfl⟩ (fun hHeld => ?_)
               clear hK K
               refine nm_ ?_
               refine one_ (i := 4) (N := some 74) (tl_ 11 127) rfl rfl (one_of HT_.out (g1_)) (by decide) (fun K hK => ?_)
               refine Kd.R_append_rows_step (Kd.int .i64) (w0 := w) w.heap.size (by rfl) (.tmp 72) (.tmp 73) 22 3 (.int .i64 0) 8 rfl Try.underlying22 info3 rfl (by decide) (by omega) vz tt l1 _ _ _ (fun k_ => (w.heap.size ≤ k_) ∧ some k_ ≠ (oh : Value).ownBlock) (fun _ => False) rfl rfl ?aO ?aR (fun _ _ h => h) (fun _ h => h.elim) ?aF ?aB ?aS ?aL ?_
               (case aR => exact uf2_ eh)
               (case aB => exact (b5))
               (case aF => exact (fun k_ hk => ⟨(Nat.le_trans (below_size (b5)) hk), Kd.fresh' (Kd.R_lt (uf1_ gz)) k_ hk⟩))
               (case aO => exact (by (with_reducible repeat (first | apply Kd.R_alloc | apply Kd.R_drewN | apply Kd.R_drew)); exact Kd.R_mono og.out (fun _ hk => ⟨hk.1.1, hk.2⟩)))
               (case aS => exact (below_size (b5)))
               (case aL => have := by9.out; omega)
               intro r7 w52 ho hb hg hat
               rw [← bz0.out] at ho
               replace cm := Aside0.mk (Kd.N_afterv (ok := (fun k_ => (w.heap.size ≤ k_) ∧ some k_ ≠ (oh : Value).ownBlock ∧ k_ ≠ b9)) (by (with_reducible repeat (first | apply Kd.N_alloc | apply Kd.N_drewN | apply Kd.N_drew)); exact Kd.N_mono cm.out (fun _ hk => ⟨⟨hk.1.1.1, ⟨hk.2, hk.1.1.2⟩⟩, hk.1.2⟩)) hg hat)
               replace bf := Aside0.mk (blk_grown (g := b9) (o := .cells #[.slice af ab.length ae, .slice (some mh) aa.length ag] 25 (0, 0)) (uf0_ bf) hg (Kd.R_ne og.out bf.out (by decide)))
               replace gz := Aside0.mk (Kd.R_after (ok := (fun k_ => (w.heap.size ≤ k_))) (g76_) hg hat)
               replace HB := Aside0.mk (hb)
               have pf := Aside0.mk (ho)
               clear og
               clear ho hb hg hat
               refine hK.out _ _ ⟨(blk_cell bf.out 0).trans rfl, (blk_cell bf.out 1).trans rfl⟩ (fun hHeld => ?_)
               clear hK K
               refine nm_ ?_
               exact norm_ (g31_) (hCont (vz, r7, oh) _ ⟨hHeld, (uf1_ pf), (uf1_ gz), (by (with_reducible repeat (first | apply Kd.N_alloc | apply Kd.N_drewN | apply Kd.N_drew)); exact Kd.N_mono cm.out (fun _ hk => ⟨hk.1.1, ⟨hk.2, ⟨hk.1.2.1, hk.1.2.2⟩⟩⟩)), (uf0_ bf), (b5)⟩)
             ·skip
              refine Kd.R_lit_step (Kd.int .i64) _ 3 ?hg (N := 76) ?hd (xs := ([dz] : List Int)) (inner := [.int .i64 dz]) (ok := fun _ => True) (okp := fun _ => True) ?hr ?hp (fun _ hk => hk) trivial (Below.refl _ _) (Nat.le_refl _) (by simp) ?_; (case hd => rfl); (case hg => rfl); (case hr => first | (go_simp; done) | (go_simp; rfl)); (case hp => exact (Reps.one (show Kd.M (Kd.int .i64) _ _ _ dz [.int .i64 dz] from rfl) (Reps.none _ _)))
              intro oh w48 oe hb hg_ hnew_
              clear hg_ hnew_
              (first | rw [← af5.out] at oe | (simp only [Int.reduceToNat] at oe; rw [← af5.out] at oe))
              replace cm := Aside0.mk (Kd.N_elder' (uf4_ cm) (Kd.R_base oe) hb)
              have gz := Aside0.mk (Kd.R_lower (Kd.R_newM (M := fun k_ => (w.heap.size ≤ k_)) oe (below_size (b5)) (fun k_ h_ => h_)) (below_size (b5)))
              replace bf := bb_ bf hb
              replace HB := Aside0.mk (below_step (b5) hb)
              clear hb oe
              refine hK.out _ _ ⟨(blk_cell bf.out 0).trans rfl, (blk_cell bf.out 1).trans rfl⟩ (fun hHeld => ?_)
              clear hK K
              refine nm_ ?_
              refine one_ (i := 2) (N := some 72) (tl_ 11 111) rfl rfl (one_of HT_.out (g1_)) (by decide) (fun K hK => ?_)
              refine Kd.R_lit_step (Kd.int .i64) _ 3 ?hg (N := 72) ?hd (xs := ([] : List Int)) (inner := []) (ok := fun _ => True) (okp := fun _ => True) ?hr ?hp (fun _ hk => hk) trivial (Below.refl _ _) (Nat.le_refl _) (by simp) ?_; (case hd => rfl); (case hg => rfl); (case hr => first | (go_simp; done) | (go_simp; rfl)); (case hp => exact (Reps.none _ _))
              intro vz w50 mi hb hg_ hnew_
              clear hg_ hnew_
              (first | rw [← bf9.out] at mi | (simp only [Int.reduceToNat] at mi; rw [← bf9.out] at mi))
              replace cm := Aside0.mk (Kd.N_elder' (uf4_ cm) (Kd.R_base mi) hb)
              have og := Aside0.mk (Kd.R_lower (Kd.R_new' (Kd.R_newM (M := fun k_ => (w.heap.size ≤ k_)) mi (below_size (b5)) (fun k_ h_ => h_)) (Kd.R_lt (uf1_ gz))) (below_size (b5)))
              replace gz := Aside0.mk (Kd.R_elder' (uf1_ gz) (Kd.R_base mi) hb)
              replace bf := bb_ bf hb
              replace HB := Aside0.mk (below_step (b5) hb)
              clear hb mi
              refine hK.out _ _ ⟨(blk_cell bf.out 0).trans rfl, (blk_cell bf.out 1).trans rfl⟩ (fun hHeld => ?_)
              clear hK K
              refine nm_ ?_
              refine one_ (i := 4) (N := some 74) (tl_ 11 127) rfl rfl (one_of HT_.out (g1_)) (by decide) (fun K hK => ?_)
              refine Kd.R_append_rows_step (Kd.int .i64) (w0 := w) w.heap.size (by rfl) (.tmp 72) (.tmp 73) 22 3 (.int .i64 0) 8 rfl Try.underlying22 info3 rfl (by decide) (by omega) vz tt l1 _ _ _ (fun k_ => (w.heap.size ≤ k_) ∧ some k_ ≠ (oh : Value).ownBlock) (fun _ => False) rfl rfl ?aO ?aR (fun _ _ h => h) (fun _ h => h.elim) ?aF ?aB ?aS ?aL ?_
              (case aR => exact uf2_ eh)
              (case aB => exact (b5))
              (case aF => exact (fun k_ hk => ⟨(Nat.le_trans (below_size (b5)) hk), Kd.fresh' (Kd.R_lt (uf1_ gz)) k_ hk⟩))
              (case aO => exact (by (with_reducible repeat (first | apply Kd.R_alloc | apply Kd.R_drewN | apply Kd.R_drew)); exact Kd.R_mono og.out (fun _ hk => ⟨hk.1.1, hk.2⟩)))
              (case aS => exact (below_size (b5)))
              (case aL => have := by9.out; omega)
              intro r7 w52 ho hb hg hat
              rw [← bz0.out] at ho
              replace cm := Aside0.mk (Kd.N_afterv (ok := (fun k_ => (w.heap.size ≤ k_) ∧ some k_ ≠ (oh : Value).ownBlock ∧ k_ ≠ b9)) (by (with_reducible repeat (first | apply Kd.N_alloc | apply Kd.N_drewN | apply Kd.N_drew)); exact Kd.N_mono cm.out (fun _ hk => ⟨⟨hk.1.1.1, ⟨hk.1.2, hk.1.1.2⟩⟩, hk.2⟩)) hg hat)
              replace bf := Aside0.mk (blk_grown (g := b9) (o := .cells #[.slice af ab.length ae, .slice (some mh) aa.length ag] 25 (0, 0)) (uf0_ bf) hg (Kd.R_ne og.out bf.out (by decide)))
              replace gz := Aside0.mk (Kd.R_after (ok := (fun k_ => (w.heap.size ≤ k_))) (g76_) hg hat)
              replace HB := Aside0.mk (hb)
              have pf := Aside0.mk (ho)
              clear og
              clear ho hb hg hat
              refine hK.out _ _ ⟨(blk_cell bf.out 0).trans rfl, (blk_cell bf.out 1).trans rfl⟩ (fun hHeld => ?_)
              clear hK K
              refine nm_ ?_
              exact norm_ (g31_) (hCont (vz, r7, oh) _ ⟨hHeld, (uf1_ pf), (uf1_ gz), (by (with_reducible repeat (first | apply Kd.N_alloc | apply Kd.N_drewN | apply Kd.N_drew)); exact Kd.N_mono cm.out (fun _ hk => ⟨hk.1.1, ⟨hk.2, ⟨hk.1.2.1, hk.1.2.2⟩⟩⟩)), (uf0_ bf), (b5)⟩)
            rintro ⟨vz, r7, oh⟩ t5 ⟨hS_, h0_, h1_, h2_, h3_, h4_⟩
            have pf : Aside0 (Kd.R (Kd.int .i64) 3 t5 w.heap.size (fun k_ => (w.heap.size ≤ k_) ∧ some k_ ≠ (oh : Value).ownBlock) r7 nh) := ⟨h0_⟩
            have gz : Aside0 (Kd.R (Kd.int .i64) 3 t5 w.heap.size (fun k_ => (w.heap.size ≤ k_) ∧ some k_ ≠ (r7 : Value).ownBlock) oh ie) := ⟨h1_⟩
            replace cm : Aside0 (Kd.N (Kd.slice 3 (Kd.int .i64)) 22 t5 w.heap.size (fun k_ => (w.heap.size ≤ k_) ∧ some k_ ≠ (r7 : Value).ownBlock ∧ some k_ ≠ (oh : Value).ownBlock ∧ k_ ≠ b9) (.slice af6 gm.length af7) gm) := ⟨h2_⟩
            replace bf : Aside0 (t5.heap[b9]? = some (.cells #[.slice af ab.length ae, .slice (some mh) aa.length ag] 25 (0, 0))) := ⟨h3_⟩
            replace HB : Aside0 (Below w.heap.size w t5) := ⟨h4_⟩
            clear h0_ h1_ h2_ h3_ h4_
            have hHeld : t5.cell? ⟨b9, 0, none⟩ = some (.slice af ab.length ae) ∧ t5.cell? ⟨b9, 1, none⟩ = some (.slice (some mh) aa.length ag) := hS_
            obtain ⟨zw, zx, cy9⟩ := Kd.R_slice gz.out
            (first | subst cy9 | (injection cy9 with f1_ f2_ f3_; have f4_ := f1_.symm; have f5_ := f3_.symm; clear f1_ f2_ f3_; subst f4_; subst f5_))
            refine norm_ (a' := ?_) ?_ ?_
            rotate_left
            ·simp only [putAll, Act.put, List.setIfInBounds_toArray, List.set_cons_zero, List.set_cons_succ]
             rfl
            refine one_ (i := 7) (N := some 77) (tl_ 11 255) rfl rfl (one_of HT_.out (g1_)) (by decide) (fun K hK => ?_)
            refine Kd.R_append_rows_step (Kd.int .i64) (w0 := w) w.heap.size (by rfl) (.tmp 74) (.tmp 76) 22 3 (.int .i64 0) 8 rfl Try.underlying22 info3 rfl (by decide) (by omega) r7 nh ie _ _ _ (fun k_ => (w.heap.size ≤ k_) ∧ some k_ ≠ (.slice zw ie.length zx : Value).ownBlock) (fun _ => False) rfl rfl ?aO ?aR (fun _ _ h => h) (fun _ h => h.elim) ?aF ?aB ?aS ?aL ?_
            (case aR => repeat (first | exact (Kd.R_reads' gz.out).2.2 | (with_reducible refine Kd.C_alloc ?_ _) | (with_reducible refine Kd.C_drewN ?_ _) | (with_reducible refine Kd.C_drew ?_)))
            (case aB => exact (b5))
            (case aF => exact (fun k_ hk => ⟨(Nat.le_trans (below_size (b5)) hk), Kd.fresh' (Kd.R_lt (uf1_ gz)) k_ hk⟩))
            (case aO => exact (uf1_ pf))
            (case aS => exact (below_size (b5)))
            (case aL => have := ej8.out; omega)
            intro fs3 w54 ho hb hg hat
            rw [← ej9.out] at ho
            replace cm := Aside0.mk (Kd.N_afterv (ok := (fun k_ => (w.heap.size ≤ k_) ∧ some k_ ≠ (.slice zw ie.length zx : Value).ownBlock ∧ k_ ≠ b9)) (by (with_reducible repeat (first | apply Kd.N_alloc | apply Kd.N_drewN | apply Kd.N_drew)); exact Kd.N_mono cm.out (fun _ hk => ⟨⟨hk.1, ⟨hk.2.2.1, hk.2.2.2⟩⟩, hk.2.1⟩)) hg hat)
            replace bf := Aside0.mk (blk_grown (g := b9) (o := .cells #[.slice af ab.length ae, .slice (some mh) aa.length ag] 25 (0, 0)) (uf0_ bf) hg (Kd.R_ne pf.out bf.out (by decide)))
            replace gz := Aside0.mk (Kd.R_after (ok := (fun k_ => (w.heap.size ≤ k_))) (uf1_ gz) hg hat)
            replace HB := Aside0.mk (hb)
            have t6 := Aside0.mk (ho)
            clear pf
            clear ho hb hg hat
            obtain ⟨af8, af9, cz0⟩ := Kd.R_slice t6.out
            (first | subst cz0 | (injection cz0 with f1_ f2_ f3_; have f4_ := f1_.symm; have f5_ := f3_.symm; clear f1_ f2_ f3_; subst f4_; subst f5_))
            refine hK.out _ _ ⟨(blk_cell bf.out 0).trans rfl, (blk_cell bf.out 1).trans rfl⟩ (fun hHeld => ?_)
            clear hK K
            refine nm_ ?_
            refine one_ (i := 8) (N := some 78) (tl_ 11 511) rfl rfl (one_of HT_.out (g1_)) (by decide) (fun K hK => ?_)
            refine goes_ Try.func113 (g1_) rfl #[.agg #[.slice af ab.length ae, .slice (some mh) aa.length ag], .slice af8 vy.length af9] (by rfl) rfl rfl (g3_) ?_
            with_reducible refine (ih k4 (g61_) _ _ ab _ _ aa _ _ vy ka _ ?side1 ?side2 ?side3 ?side4 ?side5 ?side6 A44.out).mono ?_
            (case side1 => exact uf2_ b7)
            (case side2 => exact cn.out)
            (case side3 => exact uf2_ bz)
            (case side4 => exact cr.out)
            (case side5 => repeat (first | exact (Kd.R_reads' t6.out).2.2 | (with_reducible refine Kd.C_alloc ?_ _) | (with_reducible refine Kd.C_drewN ?_ _) | (with_reducible refine Kd.C_drew ?_)))
            (case side6 => exact (Kd.R_reads' t6.out).2.1)
            rintro e w57 ⟨fs4, rfl, ac, hb⟩
            refine ⟨_, rfl, ?_⟩
            have bg0 := Aside0.mk (Kd.N_lower (Kd.N_mono (ok' := fun k_ => (w.heap.size ≤ k_) ∧ some k_ ≠ (.slice af6 gm.length af7 : Value).ownBlock ∧ some k_ ≠ (.slice zw ie.length zx : Value).ownBlock ∧ some k_ ≠ (.slice af8 vy.length af9 : Value).ownBlock ∧ k_ ≠ b9) ac (fun k_ hk_ => ⟨(Nat.le_trans (below_size (b5)) hk_), (Kd.fresh' (Kd.N_lt (uf4_ cm)) k_ hk_), (Kd.fresh' (Kd.R_lt (uf1_ gz)) k_ hk_), (Kd.fresh' (Kd.R_lt (uf1_ t6)) k_ hk_), (Kd.freshB (g := b9) (o := .cells #[.slice af ab.length ae, .slice (some mh) aa.length ag] 25 (0, 0)) (uf0_ bf) k_ hk_)⟩)) (below_size (b5)))
            replace cm := Aside0.mk (Kd.N_elder' (uf4_ cm) (Kd.N_base ac) hb)
            replace gz := Aside0.mk (Kd.R_below (uf1_ gz) hb)
            replace t6 := Aside0.mk (Kd.R_below (uf1_ t6) hb)
            replace bf := bb_ bf hb
            replace HB := Aside0.mk (below_step (b5) hb)
            (try clear hb)
            (try clear hk hi)
            (try clear ac)
            obtain ⟨fs5, fs6, cz1⟩ := Kd.N_slice bg0.out
            (first | subst cz1 | (injection cz1 with f1_ f2_ f3_; have f4_ := f1_.symm; have f5_ := f3_.symm; clear f1_ f2_ f3_; subst f4_; subst f5_))
            refine hK.out _ _ ⟨(blk_cell bf.out 0).trans rfl, (blk_cell bf.out 1).trans rfl⟩ (fun hHeld => ?_)
            clear hK K
            refine nm_ ?_
            refine one_ (i := 9) (N := some 79) (tl_ 11 1023) rfl rfl (one_of HT_.out (g1_)) (by decide) (fun K hK => ?_)
            refine Kd.N_append_rows_step (Kd.slice 3 (Kd.int .i64)) (w0 := w) w.heap.size (by rfl) (.tmp 70) (.tmp 78) 23 22 (.slice none 0 0) 24 rfl Try.underlying23 info22 rfl (by decide) (by omega) (.slice af6 gm.length af7) gm ka _ _ _ (fun k_ => (w.heap.size ≤ k_) ∧ some k_ ≠ (.slice zw ie.length zx : Value).ownBlock ∧ some k_ ≠ (.slice af8 vy.length af9 : Value).ownBlock ∧ k_ ≠ b9) (fun k_ => ((fun k_ => (w.heap.size ≤ k_) ∧ some k_ ≠ (.slice zw ie.length zx : Value).ownBlock ∧ some k_ ≠ (.slice af8 vy.length af9 : Value).ownBlock ∧ k_ ≠ b9)) k_ ∧ some k_ ≠ (.slice af6 gm.length af7 : Value).ownBlock) rfl rfl ?aO ?aR (fun _ hk => hk) ?aF ?aB ?aS ?aL ?_
            (case aR => exact (by skip; exact Kd.N_F (Kd.N_mono (ok' := (fun k_ => ((fun k_ => (w.heap.size ≤ k_) ∧ some k_ ≠ (.slice zw ie.length zx : Value).ownBlock ∧ some k_ ≠ (.slice af8 vy.length af9 : Value).ownBlock ∧ k_ ≠ b9)) k_ ∧ some k_ ≠ (.slice af6 gm.length af7 : Value).ownBlock)) (bg0.out) (fun k_ hk => ⟨⟨hk.1, ⟨hk.2.2.1, ⟨hk.2.2.2.1, hk.2.2.2.2⟩⟩⟩, hk.2.1⟩))))
            (case aB => exact (b5))
            (case aF => exact (fun k_ hk => ⟨(Nat.le_trans (below_size (b5)) hk), Kd.fresh' (Kd.R_lt (uf1_ gz)) k_ hk, Kd.fresh' (Kd.R_lt (uf1_ t6)) k_ hk, Kd.freshB (g := b9) (o := .cells #[.slice af ab.length ae, .slice (some mh) aa.length ag] 25 (0, 0)) (uf0_ bf) k_ hk⟩))
            (case aO => exact (by (with_reducible repeat (first | apply Kd.N_alloc | apply Kd.N_drewN | apply Kd.N_drew)); exact Kd.N_mono cm.out (fun _ hk => ⟨hk.1.1.1, ⟨hk.1.1.2.1, ⟨hk.1.2, hk.1.1.2.2⟩⟩⟩)))
            (case aS => exact (below_size (b5)))
            (case aL => have := bv3.out; omega)
            intro fs7 w58 ho hb hg hat
            rw [← ek0.out] at ho
            replace bf := Aside0.mk (blk_grown (g := b9) (o := .cells #[.slice af ab.length ae, .slice (some mh) aa.length ag] 25 (0, 0)) (uf0_ bf) hg (Kd.N_ne cm.out bf.out (by decide)))
            replace gz := Aside0.mk (Kd.R_over' (uf1_ gz) (Kd.N_typed (uf4_ cm)) (by decide) hg)
            replace t6 := Aside0.mk (Kd.R_over' (uf1_ t6) (Kd.N_typed (uf4_ cm)) (by decide) hg)
            replace bg0 := Aside0.mk (Kd.N_afterv (ok := (fun k_ => (w.heap.size ≤ k_) ∧ some k_ ≠ (.slice zw ie.length zx : Value).ownBlock ∧ some k_ ≠ (.slice af8 vy.length af9 : Value).ownBlock ∧ k_ ≠ b9)) (by (with_reducible repeat (first | apply Kd.N_alloc | apply Kd.N_drewN | apply Kd.N_drew)); exact Kd.N_mono bg0.out (fun _ hk => ⟨⟨hk.1, ⟨hk.2.2.1, ⟨hk.2.2.2.1, hk.2.2.2.2⟩⟩⟩, hk.2.1⟩)) hg hat)
            replace HB := Aside0.mk (hb)
            have ek2 := Aside0.mk (ho)
            clear cm
            clear ho hb hg hat
            refine hK.out _ _ ⟨(blk_cell bf.out 0).trans rfl, (blk_cell bf.out 1).trans rfl⟩ (fun hHeld => ?_)
            clear hK K
            refine nm_ ?_
            refine pw_ 10 5 (tl_ 11 2047) rfl rfl ?_
            refine done_ (done_of HT_.out (g1_)) ?_
            try go_wp2
            go_roundg k4
            case measure => have := HJ5.out; have := HJ17.out; have := HK3.out; have := HK4.out; omega
            case rel => exact ⟨(cy8), (wrap64 (dz + 1)), (g2_), H', ⟨g61_⟩, ⟨by (with_reducible repeat (first | apply Kd.N_alloc | apply Kd.N_drewN | apply Kd.N_drew)); exact Kd.N_mono ek2.out (fun _ hk => ⟨hk.1, hk.2.2.2⟩)⟩, ⟨uf0_ bf⟩, ⟨b5⟩⟩
       ·rw [if_neg jt] at H
        have bf7 := decide_eq_false jt
        clear jt
        obtain rfl := Option.some.inj H
        obtain ⟨fs8, fs9, ft0, ft1⟩ := blk2_ bf
        go_wp2; (repeat ((first | go_step3 | rw [Exit.noGoto_normal] | rw [Exit.noGoto_exit] | rw [Exit.noGoto_ret]); go_wp2))
        go_ret
        exact ⟨_, by first | rfl | (simp [errW_none, errW_some] <;> rfl) | (simp only [← hji3]; first | rfl | (simp [errW_none, errW_some] <;> rfl)) | (simp [*, errW_none, errW_some] <;> rfl), by (with_reducible repeat (first | apply Kd.N_alloc | apply Kd.N_drewN | apply Kd.N_drew)); exact Kd.N_mono cm.out (fun _ hk => hk.1), b5⟩
def spec_l3Before.l0 : Nat → List Int → List Int → Int → Option (Bool)
 | 0, _, _, _ => none
 | k + 1, x0, x1, x5 => if x5 < (x0.length : Int) then (if 0 ≤ x5 then (if x5 < (x1.length : Int) then (if (rd x0 x5) = (rd x1 x5) then (spec_l3Before.l0 k x0 x1 (wrap64 (x5 + 1))) else (some (decide ((rd x0 x5) < (rd x1 x5))))) else (none)) else (none)) else (some false)
def spec_l3Before.f (k : Nat) (l0 : List Int) (l1 : List Int) : Option (Bool) := if (l0.length : Int) = (l1.length : Int) then (spec_l3Before.l0 k l0 l1 0) else (some (decide ((l0.length : Int) < (l1.length : Int))))
theorem spec_l3Before.mq {p : Prop} (h : p := by
 repeat' first
 | (with_reducible exact ih0 _ _ _)
 | (with_reducible exact LeO.refl _)
 | (with_reducible exact LeO.none _)
 | (with_reducible refine LeO.ite ?_ ?_)
 | (with_reducible refine LeO.bind ?_ (fun _ => ?_))
 | exact ih0 _ _ _
 | exact LeO.none _
 | refine LeO.ite ?_ ?_
 | refine LeO.bind ?_ (fun _ => ?_)) : p := h
theorem spec_l3Before.mono_l : ∀ k, (∀ y0 y1 y2, LeO (spec_l3Before.l0 k y0 y1 y2) (spec_l3Before.l0 (k + 1) y0 y1 y2))
 | 0 => fun _ _ _ r h => by simp [spec_l3Before.l0] at h
 | k + 1 => by
  have ih0 := spec_l3Before.mono_l k
  ·intro y0 y1 y2
   unfold spec_l3Before.l0
   exact spec_l3Before.mq
theorem spec_l3Before.mono : ∀ a0 a1 k, LeO (spec_l3Before.f k a0 a1) (spec_l3Before.f (k + 1) a0 a1) := by
 intro a0 a1 k
 have ih0 := spec_l3Before.mono_l k
 unfold spec_l3Before.f
 exact spec_l3Before.mq
set_option maxHeartbeats 8000000 in
set_option maxRecDepth 100000 in
theorem spec_l3Before.calls (k : Nat) (A0 : Option Addr) (c0 : Nat) (l0 : List Int) (A1 : Option Addr) (c1 : Nat) (l1 : List Int) (r : Bool) (w : World) (ct : Kd.C (Kd.int .i64) w A0 l0.length l0) (dq : l0.length ≤ c0) (gx : Kd.C (Kd.int .i64) w A1 l1.length l1) (gj : l1.length ≤ c1) (h : spec_l3Before.f k l0 l1 = some r) :
  Calls Try.prog 114 #[.slice A0 l0.length c0, .slice A1 l1.length c1] w fun e w' => e = .returned (.bool r) ∧ Drawn0 w w' := by
 have eg := Aside0.mk ct
 have jo := Aside0.mk dq
 clear ct dq
 have eh := Aside0.mk gx
 have HC1 := Aside0.mk gj
 clear gx gj
 have H : (if (l0.length : Int) = (l1.length : Int) then (spec_l3Before.l0 k l0 l1 0) else (some (decide ((l0.length : Int) < (l1.length : Int))))) = some r := h
 clear h
 by_cases c3 : (l0.length : Int) = (l1.length : Int)
 ·rw [if_pos c3] at H
  have ft : ((l0.length : Int) == (l1.length : Int)) = true := beq_iff_eq.mpr c3
  have kn : ((l0.length : Int) != (l1.length : Int)) = false := bne_eq_false_iff_eq.mpr c3
  have vd : (l0.length == l1.length) = true := by first | simpa using c3 | (simp at c3 ⊢; omega)
  clear c3
  have H' := Aside0.mk H
  clear H
  go_enter Try.func114, Try.ntmps114
  go_wp2
  repeat (go_quiet (fail); try go_wp2)
  go_loopg [5] k (fun kq v5 w' => ∃ (bs : Int), v5 = .int .i64 bs ∧ Aside0 (spec_l3Before.l0 kq l0 l1 bs = some r) ∧ Aside0 (kq ≤ k) ∧ Drawn0 w w')
  case atStart => exact ⟨(0), (g2_), H', ⟨Nat.le_refl _⟩, g5_⟩
  case round =>
   clear H'
   try clear c1
   try clear p2
   try clear c3
   try clear ft
   try clear kn
   try clear vd
   obtain ⟨bs, rfl, HA, HK1, ⟨m1, rfl⟩⟩ := hrel
   cases gk with
   | zero => exact absurd HA.out (by simp [spec_l3Before.l0])
   | succ k1 =>
    have H := HA.out
    clear HA
    simp only [spec_l3Before.l0] at H
    by_cases c4 : bs < (l0.length : Int)
    ·rw [if_pos c4] at H
     have i8 := decide_eq_true c4
     clear c4
     obtain ⟨c5, H⟩ := pos_ H
     have ev := decide_eq_true c5
     clear c5
     obtain ⟨c6, H⟩ := pos_ H
     have gu := decide_eq_true c6
     clear c6
     by_cases c7 : (rd l0 bs) = (rd l1 bs)
     ·rw [if_pos c7] at H
      have al0 : ((rd l0 bs) == (rd l1 bs)) = true := beq_iff_eq.mpr c7
      have br8 : ((rd l0 bs) != (rd l1 bs)) = false := bne_eq_false_iff_eq.mpr c7
      clear c7
      have H' := Aside0.mk H
      clear H
      have z8 : 0 ≤ (bs : Int) := of_decide_eq_true (g0_)
      have z9 : bs < (l0.length : Int) := of_decide_eq_true (g0_)
      obtain ⟨cz4, bz2, ek6⟩ := Kd.at_int eg.out bs z8 z9
      cases bz2
      replace z8 := eq_true z8
      replace z9 := eq_true z9
      have aa0 : 0 ≤ (bs : Int) := of_decide_eq_true (g0_)
      have aa1 : bs < (l1.length : Int) := of_decide_eq_true (g0_)
      obtain ⟨cz5, bz3, ek7⟩ := Kd.at_int eh.out bs aa0 aa1
      cases bz3
      replace aa0 := eq_true aa0
      replace aa1 := eq_true aa1
      go_wp2
      repeat (go_quiet (fail); try go_wp2)
      go_roundg k1
      case measure => have := HK1.out; omega
      case rel => exact ⟨(wrap64 (bs + 1)), (g2_), H', ⟨g9_⟩, g5_⟩
     ·rw [if_neg c7] at H
      have al0 : ((rd l0 bs) == (rd l1 bs)) = false := beq_eq_false_iff_ne.mpr c7
      have br8 : ((rd l0 bs) != (rd l1 bs)) = true := bne_iff_ne.mpr c7
      obtain rfl := Option.some.inj H
      have z8 : 0 ≤ (bs : Int) := of_decide_eq_true (g0_)
      have z9 : bs < (l0.length : Int) := of_decide_eq_true (g0_)
      obtain ⟨cz4, bz2, ek6⟩ := Kd.at_int eg.out bs z8 z9
      cases bz2
      replace z8 := eq_true z8
      replace z9 := eq_true z9
      have aa0 : 0 ≤ (bs : Int) := of_decide_eq_true (g0_)
      have aa1 : bs < (l1.length : Int) := of_decide_eq_true (g0_)
      obtain ⟨cz5, bz3, ek7⟩ := Kd.at_int eh.out bs aa0 aa1
      cases bz3
      replace aa0 := eq_true aa0
      replace aa1 := eq_true aa1
      have bz4 : 0 ≤ (bs : Int) := of_decide_eq_true (g0_)
      have bz5 : bs < (l0.length : Int) := of_decide_eq_true (g0_)
      obtain ⟨ek8, ek9, ft2⟩ := Kd.at_int eg.out bs bz4 bz5
      obtain rfl : cz4 = ek8 := (by injection ek9)
      replace bz4 := eq_true bz4
      replace bz5 := eq_true bz5
      have bz6 : 0 ≤ (bs : Int) := of_decide_eq_true (g0_)
      have bz7 : bs < (l1.length : Int) := of_decide_eq_true (g0_)
      obtain ⟨el0, el1, ft3⟩ := Kd.at_int eh.out bs bz6 bz7
      obtain rfl : cz5 = el0 := (by injection el1)
      replace bz6 := eq_true bz6
      replace bz7 := eq_true bz7
      go_wp2
      repeat (go_quiet (fail); try go_wp2)
      go_ret
      exact ⟨g2_, g5_⟩
    ·rw [if_neg c4] at H
     have i8 := decide_eq_false c4
     clear c4
     obtain rfl := Option.some.inj H
     go_wp2
     repeat (go_quiet (fail); try go_wp2)
     go_ret
     exact ⟨g2_, g5_⟩
 ·rw [if_neg c3] at H
  have ft : ((l0.length : Int) == (l1.length : Int)) = false := beq_eq_false_iff_ne.mpr c3
  have kn : ((l0.length : Int) != (l1.length : Int)) = true := bne_iff_ne.mpr c3
  have vd : (l0.length == l1.length) = false := by first | simpa using c3 | (simp at c3 ⊢; omega)
  obtain rfl := Option.some.inj H
  go_enter Try.func114, Try.ntmps114
  go_wp2
  repeat (go_quiet (fail); try go_wp2)
  go_ret
  exact ⟨g2_, g5_⟩
mutual
def spec_CirclesOf.j1 : Nat → List (List Int) → Option ((List (List Int)))
 | 0, _ => none
 | k + 1, x3 => spec_CirclesOf.l1 k x3 1
def spec_CirclesOf.l1 : Nat → List (List Int) → Int → Option ((List (List Int)))
 | 0, _, _ => none
 | k + 1, x3, x5 => if x5 < (x3.length : Int) then (spec_CirclesOf.l2 k x3 x5 x5) else (some x3)
def spec_CirclesOf.l2 : Nat → List (List Int) → Int → Int → Option ((List (List Int)))
 | 0, _, _, _ => none
 | k + 1, x3, x5, x6 => if x6 > 0 then (if 0 ≤ x6 then (if x6 < (x3.length : Int) then (if 0 ≤ (wrap64 (x6 - 1)) then (if (wrap64 (x6 - 1)) < (x3.length : Int) then ((spec_l3Before.f k (rd_L1 x3 x6) (rd_L1 x3 (wrap64 (x6 - 1)))).bind fun ap5 => (if ap5 = true then (spec_CirclesOf.l2 k ((x3.set (x6 : Int).toNat (rd_L1 x3 (wrap64 (x6 - 1)))).set ((wrap64 (x6 - 1)) : Int).toNat (rd_L1 x3 x6)) x5 (wrap64 (x6 - 1))) else (spec_CirclesOf.l1 k x3 (wrap64 (x5 + 1))))) else (none)) else (none)) else (none)) else (none)) else (spec_CirclesOf.l1 k x3 (wrap64 (x5 + 1)))
def spec_CirclesOf.l0 : Nat → List (List Int) → Int → List Int → List (List Int) → Option ((List (List Int)))
 | 0, _, _, _, _ => none
 | k + 1, x3, x4, bg1, bz8 => if x4 < (bg1.length : Int) then ((spec_BookOk.f k bg1 bz8).bind fun bz9 => (if bz9 = true then ((spec_l3Paths.f k bg1 bz8 (([x4] : List Int))).bind fun oj => (if x3.length + oj.length < 5864062014805 then (spec_CirclesOf.l0 k (x3 ++ oj) (wrap64 (x4 + 1)) bg1 bz8) else (none))) else (spec_CirclesOf.j1 k x3))) else (spec_CirclesOf.j1 k x3)
end
def spec_CirclesOf.f (k : Nat) (ab : List Int) (aa : List (List Int)) : Option ((List (List Int))) := spec_CirclesOf.l0 k (([] : List (List Int))) 0 ab aa
theorem spec_CirclesOf.V_atq {α : Type} {d : Kd α} {e : Nat} {w w1 : World} {base n : Nat} {ok : Nat → Prop} {v : Value} {xs : List α} (hq : World.drewN w n = w1) (h : Kd.V d e w base ok v xs) : Kd.V d e w1 base ok v xs := by subst hq; exact Kd.V_drewN h n
theorem spec_CirclesOf.mq {p : Prop} (h : p := by
 repeat' first
 | (with_reducible exact ih0 _)
 | (with_reducible exact ih1 _ _)
 | (with_reducible exact ih2 _ _ _)
 | (with_reducible exact ih3 _ _ _ _)
 | (with_reducible exact spec_BookOk.mono _ _ _)
 | (with_reducible exact spec_l3Before.mono _ _ _)
 | (with_reducible exact spec_l3Paths.mono _ _ _ _)
 | (with_reducible exact LeO.refl _)
 | (with_reducible exact LeO.none _)
 | (with_reducible refine LeO.ite ?_ ?_)
 | (with_reducible refine LeO.bind ?_ (fun _ => ?_))
 | exact ih0 _
 | exact ih1 _ _
 | exact ih2 _ _ _
 | exact ih3 _ _ _ _
 | exact spec_BookOk.mono _ _ _
 | exact spec_l3Before.mono _ _ _
 | exact spec_l3Paths.mono _ _ _ _
 | exact LeO.none _
 | refine LeO.ite ?_ ?_
 | refine LeO.bind ?_ (fun _ => ?_)) : p := h
theorem spec_CirclesOf.mono_l : ∀ k, (∀ y0, LeO (spec_CirclesOf.j1 k y0) (spec_CirclesOf.j1 (k + 1) y0)) ∧ (∀ y0 y1, LeO (spec_CirclesOf.l1 k y0 y1) (spec_CirclesOf.l1 (k + 1) y0 y1)) ∧ (∀ y0 y1 y2, LeO (spec_CirclesOf.l2 k y0 y1 y2) (spec_CirclesOf.l2 (k + 1) y0 y1 y2)) ∧ (∀ y0 y1 y2 y3, LeO (spec_CirclesOf.l0 k y0 y1 y2 y3) (spec_CirclesOf.l0 (k + 1) y0 y1 y2 y3))
 | 0 => ⟨fun _ r h => by simp [spec_CirclesOf.j1] at h, fun _ _ r h => by simp [spec_CirclesOf.l1] at h, fun _ _ _ r h => by simp [spec_CirclesOf.l2] at h, fun _ _ _ _ r h => by simp [spec_CirclesOf.l0] at h⟩
 | k + 1 => by
  obtain ⟨ih0, ih1, ih2, ih3⟩ := spec_CirclesOf.mono_l k
  refine ⟨?_, ?_, ?_, ?_⟩
  ·intro y0
   unfold spec_CirclesOf.j1
   exact spec_CirclesOf.mq
  ·intro y0 y1
   unfold spec_CirclesOf.l1
   exact spec_CirclesOf.mq
  ·intro y0 y1 y2
   unfold spec_CirclesOf.l2
   exact spec_CirclesOf.mq
  ·intro y0 y1 y2 y3
   unfold spec_CirclesOf.l0
   exact spec_CirclesOf.mq
theorem spec_CirclesOf.mono : ∀ a0 a1 k, LeO (spec_CirclesOf.f k a0 a1) (spec_CirclesOf.f (k + 1) a0 a1) := by
 intro a0 a1 k
 obtain ⟨ih0, ih1, ih2, ih3⟩ := spec_CirclesOf.mono_l k
 unfold spec_CirclesOf.f
 exact spec_CirclesOf.mq
theorem de {p : Prop} (h : p := by repeat (first | (with_reducible first | exact HB.out | apply below_alloc | apply pw_below_drewN | apply below_drew1 | refine below_set ?_ ag0.out) | exact HB.out)) : p := h
set_option maxHeartbeats 8000000 in
set_option maxRecDepth 100000 in
theorem spec_CirclesOf.calls (k : Nat) (af : Option Addr) (ae : Nat) (ab : List Int) (ah : Option Addr) (ag : Nat) (aa : List (List Int)) (r : List (List Int)) (w : World) (cg : Kd.C (Kd.int .i64) w af ab.length ab) (ck : ab.length ≤ ae) (ch : Kd.C (Kd.slice 3 (Kd.int .i64)) w ah aa.length aa) (cl : aa.length ≤ ag) (h : spec_CirclesOf.f k ab aa = some r) :
  Calls Try.prog 95 #[.agg #[.slice af ab.length ae, .slice ah aa.length ag]] w fun e w' => ∃ v0_ : Value, e = .returned (v0_) ∧ Kd.N (Kd.slice 3 (Kd.int .i64)) 22 w' w.heap.size (fun k_ => (w.heap.size ≤ k_)) v0_ r ∧ Below w.heap.size w w' := by
 have hu25 := Try.underlying25
 have b7 := Aside0.mk cg
 have cn := Aside0.mk ck
 clear cg ck
 have bz := Aside0.mk ch
 have cr := Aside0.mk cl
 clear ch cl
 have HB := Aside0.mk (Below.refl w.heap.size w)
 have H : (spec_CirclesOf.l0 k (([] : List (List Int))) 0 ab aa) = some r := h
 clear h
 obtain ⟨cz6, hy288⟩ : ∃ y_ : List (List Int), y_ = (([] : List (List Int))) := ⟨_, rfl⟩
 replace H : (spec_CirclesOf.l0 k cz6 0 ab aa) = some r := by first | (rw [hy288]; with_reducible exact H) | (have H2_ := (Option.bind_some _ _).symm.trans H; rw [hy288]; with_reducible exact H2_) | (have H2_ := (Option.bind_some _ _).symm.trans H; with_reducible exact H2_) | with_reducible exact H | (rw [hy288]; exact H) | exact H
 have ag1 := Aside0.mk hy288
 clear hy288
 have pu := Aside0.mk H
 clear H
 go_enter Try.func95, Try.ntmps95
 go_upto_block 0 with (first | ((with_reducible refine gate_dst (N := 1) rfl ?_); refine bx_ (N := 1) #[.slice af ab.length ae, .slice ah aa.length ag] 25 ?_; intro ax hg w3 hbox hb; have a8 := Aside0.mk (hbox); have bg2 := Aside0.mk ((g32_ : w.heap.size ≤ ax)); have ag0 := Aside0.mk ((g32_ : w.heap.size ≤ ax)); replace HB := Aside0.mk (below_step (de) hb); clear hb hbox hg) | ((with_reducible refine gate_dst (N := 8) rfl ?_); refine Kd.N_lit (Kd.slice 3 (Kd.int .i64)) _ 22 ?hg (N' := 8) ?hd (xs := ([] : List (List Int))) (inner := []) (ok := (fun k_ => (w.heap.size ≤ k_) ∧ k_ ≠ ax)) (okp := (fun k_ => (w.heap.size ≤ k_) ∧ k_ ≠ ax)) ?hr ?hp (fun _ hk => hk) ((show ∀ k_, w3.heap.size ≤ k_ → (fun k_ => (w.heap.size ≤ k_) ∧ k_ ≠ ax) k_ from fun k_ hk => ⟨(Nat.le_trans (below_size (de)) hk), Kd.freshB (g := ax) (o := .cells #[.slice af ab.length ae, .slice ah aa.length ag] 25 (0, 0)) (uf0_ a8) k_ hk⟩) _ (Nat.le_refl _)) (Below.refl _ _) (Nat.le_refl _) (by simp) ?_; (case hd => rfl); (case hg => rfl); (case hr => first | (go_simp; done) | (go_simp; rfl)); (case hp => exact (Reps.none _ _)); intro cz7 w4 k6 hb hg_ hnew_; clear hg_ hnew_; (first | rw [← ag1.out] at k6 | (simp only [Int.reduceToNat] at k6; rw [← ag1.out] at k6)); have ca0 := Aside0.mk (Kd.N_lower k6 (below_size (de))); replace a8 := bb_ a8 hb; replace HB := Aside0.mk (below_step (de) hb); clear hb k6))
 repeat (go_quiet (first | ((with_reducible refine gate_dst (N := 1) rfl ?_); refine bx_ (N := 1) #[.slice af ab.length ae, .slice ah aa.length ag] 25 ?_; intro ax hg w3 hbox hb; have a8 := Aside0.mk (hbox); have bg2 := Aside0.mk ((g32_ : w.heap.size ≤ ax)); have ag0 := Aside0.mk ((g32_ : w.heap.size ≤ ax)); replace HB := Aside0.mk (below_step (de) hb); clear hb hbox hg) | ((with_reducible refine gate_dst (N := 8) rfl ?_); refine Kd.N_lit (Kd.slice 3 (Kd.int .i64)) _ 22 ?hg (N' := 8) ?hd (xs := ([] : List (List Int))) (inner := []) (ok := (fun k_ => (w.heap.size ≤ k_) ∧ k_ ≠ ax)) (okp := (fun k_ => (w.heap.size ≤ k_) ∧ k_ ≠ ax)) ?hr ?hp (fun _ hk => hk) ((show ∀ k_, w3.heap.size ≤ k_ → (fun k_ => (w.heap.size ≤ k_) ∧ k_ ≠ ax) k_ from fun k_ hk => ⟨(Nat.le_trans (below_size (de)) hk), Kd.freshB (g := ax) (o := .cells #[.slice af ab.length ae, .slice ah aa.length ag] 25 (0, 0)) (uf0_ a8) k_ hk⟩) _ (Nat.le_refl _)) (Below.refl _ _) (Nat.le_refl _) (by simp) ?_; (case hd => rfl); (case hg => rfl); (case hr => first | (go_simp; done) | (go_simp; rfl)); (case hp => exact (Reps.none _ _)); intro cz7 w4 k6 hb hg_ hnew_; clear hg_ hnew_; (first | rw [← ag1.out] at k6 | (simp only [Int.reduceToNat] at k6; rw [← ag1.out] at k6)); have ca0 := Aside0.mk (Kd.N_lower k6 (below_size (de))); replace a8 := bb_ a8 hb; replace HB := Aside0.mk (below_step (de) hb); clear hb k6)); go_upto_block 0 with (first | ((with_reducible refine gate_dst (N := 1) rfl ?_); refine bx_ (N := 1) #[.slice af ab.length ae, .slice ah aa.length ag] 25 ?_; intro ax hg w3 hbox hb; have a8 := Aside0.mk (hbox); have bg2 := Aside0.mk ((g32_ : w.heap.size ≤ ax)); have ag0 := Aside0.mk ((g32_ : w.heap.size ≤ ax)); replace HB := Aside0.mk (below_step (de) hb); clear hb hbox hg) | ((with_reducible refine gate_dst (N := 8) rfl ?_); refine Kd.N_lit (Kd.slice 3 (Kd.int .i64)) _ 22 ?hg (N' := 8) ?hd (xs := ([] : List (List Int))) (inner := []) (ok := (fun k_ => (w.heap.size ≤ k_) ∧ k_ ≠ ax)) (okp := (fun k_ => (w.heap.size ≤ k_) ∧ k_ ≠ ax)) ?hr ?hp (fun _ hk => hk) ((show ∀ k_, w3.heap.size ≤ k_ → (fun k_ => (w.heap.size ≤ k_) ∧ k_ ≠ ax) k_ from fun k_ hk => ⟨(Nat.le_trans (below_size (de)) hk), Kd.freshB (g := ax) (o := .cells #[.slice af ab.length ae, .slice ah aa.length ag] 25 (0, 0)) (uf0_ a8) k_ hk⟩) _ (Nat.le_refl _)) (Below.refl _ _) (Nat.le_refl _) (by simp) ?_; (case hd => rfl); (case hg => rfl); (case hr => first | (go_simp; done) | (go_simp; rfl)); (case hp => exact (Reps.none _ _)); intro cz7 w4 k6 hb hg_ hnew_; clear hg_ hnew_; (first | rw [← ag1.out] at k6 | (simp only [Int.reduceToNat] at k6; rw [← ag1.out] at k6)); have ca0 := Aside0.mk (Kd.N_lower k6 (below_size (de))); replace a8 := bb_ a8 hb; replace HB := Aside0.mk (below_step (de) hb); clear hb k6)))
 (try simp only [Act.put, List.setIfInBounds_toArray, List.set_cons_zero, List.set_cons_succ])
 go_cut [3] (fun v3 wc => ∃ (kq : Nat) (dy : List (List Int)), Aside0 (spec_CirclesOf.j1 kq dy = some r) ∧ Aside0 (kq ≤ k) ∧ Aside0 (Kd.N (Kd.slice 3 (Kd.int .i64)) 22 wc w.heap.size (fun k_ => (w.heap.size ≤ k_) ∧ k_ ≠ ax) v3 dy) ∧ Aside0 (wc.heap[ax]? = some (.cells #[(.slice af ab.length ae), (.slice ah aa.length ag)] 25 (0, 0))) ∧ Aside0 (Below w.heap.size w wc))
 case first =>
  have H := pu.out
  clear pu
  have H' := Aside0.mk H
  clear H
  go_wp2
  repeat (go_quiet (fail); try go_wp2)
  go_loopg [3, 4] k (fun kq v3 v4 w' => ∃ (dy : List (List Int)) (d8 : Int), v4 = .int .i64 d8 ∧ Aside0 (spec_CirclesOf.l0 kq dy d8 ab aa = some r) ∧ Aside0 (kq ≤ k) ∧ Aside0 (Kd.N (Kd.slice 3 (Kd.int .i64)) 22 w' w.heap.size (fun k_ => (w.heap.size ≤ k_) ∧ k_ ≠ ax) v3 dy) ∧ Aside0 (w'.heap[ax]? = some (.cells #[(.slice af ab.length ae), (.slice ah aa.length ag)] 25 (0, 0))) ∧ Aside0 (Below w.heap.size w w'))
  case atStart => exact ⟨(cz6), (0), (g2_), H', ⟨Nat.le_refl _⟩, ⟨uf4_ ca0⟩, ⟨uf0_ a8⟩, ⟨de⟩⟩
  case round =>
   clear H'
   try clear p2
   obtain ⟨dy, d8, rfl, HA, HK1, ap, a8, HB⟩ := hrel
   cases gk with
   | zero => exact absurd HA.out (by simp [spec_CirclesOf.l0])
   | succ k1 =>
    have H := HA.out
    clear HA
    simp only [spec_CirclesOf.l0] at H
    by_cases c6 : d8 < (ab.length : Int)
    ·rw [if_pos c6] at H
     have gu := decide_eq_true c6
     clear c6
     (first | rw [gu] | (simp only [i64_w, i32_w]; rw [gu]) | skip)
     obtain ⟨bz9, A7, H⟩ := bind_ H
     by_cases c8 : bz9 = true
     ·subst c8
      replace H := ifp_ H
      obtain ⟨k7, hy292⟩ : ∃ y_ : List Int, y_ = (([d8] : List Int)) := ⟨_, rfl⟩
      replace H : ((spec_l3Paths.f k1 ab aa k7).bind fun oj => (if dy.length + oj.length < 5864062014805 then (spec_CirclesOf.l0 k1 (dy ++ oj) (wrap64 (d8 + 1)) ab aa) else (none))) = some r := by first | (rw [hy292]; with_reducible exact H) | (have H2_ := (Option.bind_some _ _).symm.trans H; rw [hy292]; with_reducible exact H2_) | (have H2_ := (Option.bind_some _ _).symm.trans H; with_reducible exact H2_) | with_reducible exact H | (rw [hy292]; exact H) | exact H
      have ag2 := Aside0.mk hy292
      clear hy292
      obtain ⟨oj, A9, H⟩ := bind_ H
      obtain ⟨db, H⟩ := pos_ H
      have ca1 := Aside0.mk db
      clear db
      obtain ⟨cz8, hy298⟩ : ∃ y_ : List (List Int), y_ = (dy ++ oj) := ⟨_, rfl⟩
      replace H : (spec_CirclesOf.l0 k1 cz8 (wrap64 (d8 + 1)) ab aa) = some r := by first | (rw [hy298]; with_reducible exact H) | (have H2_ := (Option.bind_some _ _).symm.trans H; rw [hy298]; with_reducible exact H2_) | (have H2_ := (Option.bind_some _ _).symm.trans H; with_reducible exact H2_) | with_reducible exact H | (rw [hy298]; exact H) | exact H
      have ca2 := Aside0.mk hy298
      clear hy298
      have H' := Aside0.mk H
      clear H
      obtain ⟨yt, yu, yv, yw⟩ := blk2_ a8
      go_wp2_with (first | (go_at_call 42; (with_reducible refine (spec_BookOk.calls k1 _ _ ab _ _ aa true _ ?side1 ?side2 ?side3 ?side4 A7.out).mono ?_); (case side1 => exact uf2_ b7); (case side2 => exact cn.out); (case side3 => exact uf2_ bz); (case side4 => exact cr.out); rintro e o4 ⟨rfl, hb⟩; replace ap := Aside0.mk (Kd.N_below (uf4_ ap) hb); replace a8 := bb_ a8 hb; replace HB := Aside0.mk (below_step (de) hb); (try clear hb); (try clear hk hi); obtain ⟨ol, om, oo, op⟩ := blk2_ a8) | ((with_reducible refine gate_dst (N := 23) rfl ?_); refine Kd.R_lit (Kd.int .i64) _ 3 ?hg (N := 23) ?hd (xs := ([d8] : List Int)) (inner := [.int .i64 d8]) (ok := fun _ => True) (okp := fun _ => True) ?hr ?hp (fun _ hk => hk) trivial (Below.refl _ _) (Nat.le_refl _) (by simp) ?_; (case hd => rfl); (case hg => rfl); (case hr => first | (go_simp; done) | (go_simp; rfl)); (case hp => exact (Reps.one (show Kd.M (Kd.int .i64) _ _ _ d8 [.int .i64 d8] from rfl) (Reps.none _ _))); intro cz9 w14 je hb hg_ hnew_; clear hg_ hnew_; (first | rw [← ag2.out] at je | (simp only [Int.reduceToNat] at je; rw [← ag2.out] at je)); replace ap := Aside0.mk (Kd.N_elder' (uf4_ ap) (Kd.R_base je) hb); have fl := Aside0.mk (Kd.R_lower (Kd.R_newM (M := fun k_ => (w.heap.size ≤ k_)) je (below_size (de)) (fun k_ h_ => h_)) (below_size (de))); replace a8 := bb_ a8 hb; replace HB := Aside0.mk (below_step (de) hb); clear hb je; obtain ⟨mj, lo, vf⟩ := Kd.R_slice fl.out; subst vf) | (go_at_call 113; (with_reducible refine (spec_l3Paths.calls k1 _ _ ab _ _ aa _ _ k7 oj _ ?side1 ?side2 ?side3 ?side4 ?side5 ?side6 A9.out).mono ?_); (case side1 => exact uf2_ b7); (case side2 => exact cn.out); (case side3 => exact uf2_ bz); (case side4 => exact cr.out); (case side5 => repeat (first | exact (Kd.R_reads' fl.out).2.2 | (with_reducible refine Kd.C_alloc ?_ _) | (with_reducible refine Kd.C_drewN ?_ _) | (with_reducible refine Kd.C_drew ?_))); (case side6 => exact (Kd.R_reads' fl.out).2.1); rintro e tf ⟨da0, rfl, ac, hb⟩; have r9 := Aside0.mk (Kd.N_lower (Kd.N_mono (ok' := fun k_ => (w.heap.size ≤ k_) ∧ some k_ ≠ (u3 : Value).ownBlock ∧ some k_ ≠ (.slice mj k7.length lo : Value).ownBlock ∧ k_ ≠ ax) ac (fun k_ hk_ => ⟨(Nat.le_trans (below_size (de)) hk_), (Kd.fresh' (Kd.N_lt (uf4_ ap)) k_ hk_), (Kd.fresh' (Kd.R_lt (uf1_ fl)) k_ hk_), (Kd.freshB (g := ax) (o := .cells #[.slice af ab.length ae, .slice ah aa.length ag] 25 (0, 0)) (uf0_ a8) k_ hk_)⟩)) (below_size (de))); replace ap := Aside0.mk (Kd.N_elder' (uf4_ ap) (Kd.N_base ac) hb); replace fl := Aside0.mk (Kd.R_below (uf1_ fl) hb); replace a8 := bb_ a8 hb; replace HB := Aside0.mk (below_step (de) hb); (try clear hb); (try clear hk hi); (try clear ac); obtain ⟨k8, k9, oq⟩ := Kd.N_slice r9.out; subst oq) | ((with_reducible refine gate_builtin (b := .append) (xs := #[.tmp 20, .tmp 24]) rfl ?_); at_builtin; refine Kd.N_append_rows (Kd.slice 3 (Kd.int .i64)) (w0 := w) w.heap.size rfl (.tmp 20) (.tmp 24) 23 22 (.slice none 0 0) 24 rfl Try.underlying23 info22 rfl (by decide) (by omega) u3 dy oj _ _ _ (fun k_ => (w.heap.size ≤ k_) ∧ some k_ ≠ (.slice mj k7.length lo : Value).ownBlock ∧ k_ ≠ ax) (fun k_ => ((fun k_ => (w.heap.size ≤ k_) ∧ some k_ ≠ (.slice mj k7.length lo : Value).ownBlock ∧ k_ ≠ ax)) k_ ∧ some k_ ≠ (u3 : Value).ownBlock) rfl rfl ?aO ?aR (fun _ hk => hk) ?aF ?aB ?aS ?aL ?_; (case aR => exact (g77_)); (case aB => exact (de)); (case aF => exact (fun k_ hk => ⟨(Nat.le_trans (below_size (de)) hk), Kd.fresh' (Kd.R_lt (uf1_ fl)) k_ hk, Kd.freshB (g := ax) (o := .cells #[.slice af ab.length ae, .slice ah aa.length ag] 25 (0, 0)) (uf0_ a8) k_ hk⟩)); (case aO => exact (g78_)); (case aS => exact (below_size (de))); (case aL => have := ca1.out; omega); intro da1 w18 ho hb hg hat; rw [← ca2.out] at ho; replace a8 := Aside0.mk (blk_grown (g := ax) (o := .cells #[.slice af ab.length ae, .slice ah aa.length ag] 25 (0, 0)) (uf0_ a8) hg (Kd.N_ne ap.out a8.out (by decide))); replace fl := Aside0.mk (Kd.R_over' (uf1_ fl) (Kd.N_typed (uf4_ ap)) (by decide) hg); replace r9 := Aside0.mk (Kd.N_afterv (ok := (fun k_ => (w.heap.size ≤ k_) ∧ some k_ ≠ (.slice mj k7.length lo : Value).ownBlock ∧ k_ ≠ ax)) (g79_) hg hat); replace HB := Aside0.mk (hb); have ca3 := Aside0.mk (ho); clear ap; clear ho hb hg hat))
      repeat (go_quiet (first | (go_at_call 42; (with_reducible refine (spec_BookOk.calls k1 _ _ ab _ _ aa true _ ?side1 ?side2 ?side3 ?side4 A7.out).mono ?_); (case side1 => exact uf2_ b7); (case side2 => exact cn.out); (case side3 => exact uf2_ bz); (case side4 => exact cr.out); rintro e o4 ⟨rfl, hb⟩; replace ap := Aside0.mk (Kd.N_below (uf4_ ap) hb); replace a8 := bb_ a8 hb; replace HB := Aside0.mk (below_step (de) hb); (try clear hb); (try clear hk hi); obtain ⟨ol, om, oo, op⟩ := blk2_ a8) | ((with_reducible refine gate_dst (N := 23) rfl ?_); refine Kd.R_lit (Kd.int .i64) _ 3 ?hg (N := 23) ?hd (xs := ([d8] : List Int)) (inner := [.int .i64 d8]) (ok := fun _ => True) (okp := fun _ => True) ?hr ?hp (fun _ hk => hk) trivial (Below.refl _ _) (Nat.le_refl _) (by simp) ?_; (case hd => rfl); (case hg => rfl); (case hr => first | (go_simp; done) | (go_simp; rfl)); (case hp => exact (Reps.one (show Kd.M (Kd.int .i64) _ _ _ d8 [.int .i64 d8] from rfl) (Reps.none _ _))); intro cz9 w14 je hb hg_ hnew_; clear hg_ hnew_; (first | rw [← ag2.out] at je | (simp only [Int.reduceToNat] at je; rw [← ag2.out] at je)); replace ap := Aside0.mk (Kd.N_elder' (uf4_ ap) (Kd.R_base je) hb); have fl := Aside0.mk (Kd.R_lower (Kd.R_newM (M := fun k_ => (w.heap.size ≤ k_)) je (below_size (de)) (fun k_ h_ => h_)) (below_size (de))); replace a8 := bb_ a8 hb; replace HB := Aside0.mk (below_step (de) hb); clear hb je; obtain ⟨mj, lo, vf⟩ := Kd.R_slice fl.out; subst vf) | (go_at_call 113; (with_reducible refine (spec_l3Paths.calls k1 _ _ ab _ _ aa _ _ k7 oj _ ?side1 ?side2 ?side3 ?side4 ?side5 ?side6 A9.out).mono ?_); (case side1 => exact uf2_ b7); (case side2 => exact cn.out); (case side3 => exact uf2_ bz); (case side4 => exact cr.out); (case side5 => repeat (first | exact (Kd.R_reads' fl.out).2.2 | (with_reducible refine Kd.C_alloc ?_ _) | (with_reducible refine Kd.C_drewN ?_ _) | (with_reducible refine Kd.C_drew ?_))); (case side6 => exact (Kd.R_reads' fl.out).2.1); rintro e tf ⟨da0, rfl, ac, hb⟩; have r9 := Aside0.mk (Kd.N_lower (Kd.N_mono (ok' := fun k_ => (w.heap.size ≤ k_) ∧ some k_ ≠ (u3 : Value).ownBlock ∧ some k_ ≠ (.slice mj k7.length lo : Value).ownBlock ∧ k_ ≠ ax) ac (fun k_ hk_ => ⟨(Nat.le_trans (below_size (de)) hk_), (Kd.fresh' (Kd.N_lt (uf4_ ap)) k_ hk_), (Kd.fresh' (Kd.R_lt (uf1_ fl)) k_ hk_), (Kd.freshB (g := ax) (o := .cells #[.slice af ab.length ae, .slice ah aa.length ag] 25 (0, 0)) (uf0_ a8) k_ hk_)⟩)) (below_size (de))); replace ap := Aside0.mk (Kd.N_elder' (uf4_ ap) (Kd.N_base ac) hb); replace fl := Aside0.mk (Kd.R_below (uf1_ fl) hb); replace a8 := bb_ a8 hb; replace HB := Aside0.mk (below_step (de) hb); (try clear hb); (try clear hk hi); (try clear ac); obtain ⟨k8, k9, oq⟩ := Kd.N_slice r9.out; subst oq) | ((with_reducible refine gate_builtin (b := .append) (xs := #[.tmp 20, .tmp 24]) rfl ?_); at_builtin; refine Kd.N_append_rows (Kd.slice 3 (Kd.int .i64)) (w0 := w) w.heap.size rfl (.tmp 20) (.tmp 24) 23 22 (.slice none 0 0) 24 rfl Try.underlying23 info22 rfl (by decide) (by omega) u3 dy oj _ _ _ (fun k_ => (w.heap.size ≤ k_) ∧ some k_ ≠ (.slice mj k7.length lo : Value).ownBlock ∧ k_ ≠ ax) (fun k_ => ((fun k_ => (w.heap.size ≤ k_) ∧ some k_ ≠ (.slice mj k7.length lo : Value).ownBlock ∧ k_ ≠ ax)) k_ ∧ some k_ ≠ (u3 : Value).ownBlock) rfl rfl ?aO ?aR (fun _ hk => hk) ?aF ?aB ?aS ?aL ?_; (case aR => exact (g77_)); (case aB => exact (de)); (case aF => exact (fun k_ hk => ⟨(Nat.le_trans (below_size (de)) hk), Kd.fresh' (Kd.R_lt (uf1_ fl)) k_ hk, Kd.freshB (g := ax) (o := .cells #[.slice af ab.length ae, .slice ah aa.length ag] 25 (0, 0)) (uf0_ a8) k_ hk⟩)); (case aO => exact (g78_)); (case aS => exact (below_size (de))); (case aL => have := ca1.out; omega); intro da1 w18 ho hb hg hat; rw [← ca2.out] at ho; replace a8 := Aside0.mk (blk_grown (g := ax) (o := .cells #[.slice af ab.length ae, .slice ah aa.length ag] 25 (0, 0)) (uf0_ a8) hg (Kd.N_ne ap.out a8.out (by decide))); replace fl := Aside0.mk (Kd.R_over' (uf1_ fl) (Kd.N_typed (uf4_ ap)) (by decide) hg); replace r9 := Aside0.mk (Kd.N_afterv (ok := (fun k_ => (w.heap.size ≤ k_) ∧ some k_ ≠ (.slice mj k7.length lo : Value).ownBlock ∧ k_ ≠ ax)) (g79_) hg hat); replace HB := Aside0.mk (hb); have ca3 := Aside0.mk (ho); clear ap; clear ho hb hg hat)); try go_wp2_with (first | (go_at_call 42; (with_reducible refine (spec_BookOk.calls k1 _ _ ab _ _ aa true _ ?side1 ?side2 ?side3 ?side4 A7.out).mono ?_); (case side1 => exact uf2_ b7); (case side2 => exact cn.out); (case side3 => exact uf2_ bz); (case side4 => exact cr.out); rintro e o4 ⟨rfl, hb⟩; replace ap := Aside0.mk (Kd.N_below (uf4_ ap) hb); replace a8 := bb_ a8 hb; replace HB := Aside0.mk (below_step (de) hb); (try clear hb); (try clear hk hi); obtain ⟨ol, om, oo, op⟩ := blk2_ a8) | ((with_reducible refine gate_dst (N := 23) rfl ?_); refine Kd.R_lit (Kd.int .i64) _ 3 ?hg (N := 23) ?hd (xs := ([d8] : List Int)) (inner := [.int .i64 d8]) (ok := fun _ => True) (okp := fun _ => True) ?hr ?hp (fun _ hk => hk) trivial (Below.refl _ _) (Nat.le_refl _) (by simp) ?_; (case hd => rfl); (case hg => rfl); (case hr => first | (go_simp; done) | (go_simp; rfl)); (case hp => exact (Reps.one (show Kd.M (Kd.int .i64) _ _ _ d8 [.int .i64 d8] from rfl) (Reps.none _ _))); intro cz9 w14 je hb hg_ hnew_; clear hg_ hnew_; (first | rw [← ag2.out] at je | (simp only [Int.reduceToNat] at je; rw [← ag2.out] at je)); replace ap := Aside0.mk (Kd.N_elder' (uf4_ ap) (Kd.R_base je) hb); have fl := Aside0.mk (Kd.R_lower (Kd.R_newM (M := fun k_ => (w.heap.size ≤ k_)) je (below_size (de)) (fun k_ h_ => h_)) (below_size (de))); replace a8 := bb_ a8 hb; replace HB := Aside0.mk (below_step (de) hb); clear hb je; obtain ⟨mj, lo, vf⟩ := Kd.R_slice fl.out; subst vf) | (go_at_call 113; (with_reducible refine (spec_l3Paths.calls k1 _ _ ab _ _ aa _ _ k7 oj _ ?side1 ?side2 ?side3 ?side4 ?side5 ?side6 A9.out).mono ?_); (case side1 => exact uf2_ b7); (case side2 => exact cn.out); (case side3 => exact uf2_ bz); (case side4 => exact cr.out); (case side5 => repeat (first | exact (Kd.R_reads' fl.out).2.2 | (with_reducible refine Kd.C_alloc ?_ _) | (with_reducible refine Kd.C_drewN ?_ _) | (with_reducible refine Kd.C_drew ?_))); (case side6 => exact (Kd.R_reads' fl.out).2.1); rintro e tf ⟨da0, rfl, ac, hb⟩; have r9 := Aside0.mk (Kd.N_lower (Kd.N_mono (ok' := fun k_ => (w.heap.size ≤ k_) ∧ some k_ ≠ (u3 : Value).ownBlock ∧ some k_ ≠ (.slice mj k7.length lo : Value).ownBlock ∧ k_ ≠ ax) ac (fun k_ hk_ => ⟨(Nat.le_trans (below_size (de)) hk_), (Kd.fresh' (Kd.N_lt (uf4_ ap)) k_ hk_), (Kd.fresh' (Kd.R_lt (uf1_ fl)) k_ hk_), (Kd.freshB (g := ax) (o := .cells #[.slice af ab.length ae, .slice ah aa.length ag] 25 (0, 0)) (uf0_ a8) k_ hk_)⟩)) (below_size (de))); replace ap := Aside0.mk (Kd.N_elder' (uf4_ ap) (Kd.N_base ac) hb); replace fl := Aside0.mk (Kd.R_below (uf1_ fl) hb); replace a8 := bb_ a8 hb; replace HB := Aside0.mk (below_step (de) hb); (try clear hb); (try clear hk hi); (try clear ac); obtain ⟨k8, k9, oq⟩ := Kd.N_slice r9.out; subst oq) | ((with_reducible refine gate_builtin (b := .append) (xs := #[.tmp 20, .tmp 24]) rfl ?_); at_builtin; refine Kd.N_append_rows (Kd.slice 3 (Kd.int .i64)) (w0 := w) w.heap.size rfl (.tmp 20) (.tmp 24) 23 22 (.slice none 0 0) 24 rfl Try.underlying23 info22 rfl (by decide) (by omega) u3 dy oj _ _ _ (fun k_ => (w.heap.size ≤ k_) ∧ some k_ ≠ (.slice mj k7.length lo : Value).ownBlock ∧ k_ ≠ ax) (fun k_ => ((fun k_ => (w.heap.size ≤ k_) ∧ some k_ ≠ (.slice mj k7.length lo : Value).ownBlock ∧ k_ ≠ ax)) k_ ∧ some k_ ≠ (u3 : Value).ownBlock) rfl rfl ?aO ?aR (fun _ hk => hk) ?aF ?aB ?aS ?aL ?_; (case aR => exact (g77_)); (case aB => exact (de)); (case aF => exact (fun k_ hk => ⟨(Nat.le_trans (below_size (de)) hk), Kd.fresh' (Kd.R_lt (uf1_ fl)) k_ hk, Kd.freshB (g := ax) (o := .cells #[.slice af ab.length ae, .slice ah aa.length ag] 25 (0, 0)) (uf0_ a8) k_ hk⟩)); (case aO => exact (g78_)); (case aS => exact (below_size (de))); (case aL => have := ca1.out; omega); intro da1 w18 ho hb hg hat; rw [← ca2.out] at ho; replace a8 := Aside0.mk (blk_grown (g := ax) (o := .cells #[.slice af ab.length ae, .slice ah aa.length ag] 25 (0, 0)) (uf0_ a8) hg (Kd.N_ne ap.out a8.out (by decide))); replace fl := Aside0.mk (Kd.R_over' (uf1_ fl) (Kd.N_typed (uf4_ ap)) (by decide) hg); replace r9 := Aside0.mk (Kd.N_afterv (ok := (fun k_ => (w.heap.size ≤ k_) ∧ some k_ ≠ (.slice mj k7.length lo : Value).ownBlock ∧ k_ ≠ ax)) (g79_) hg hat); replace HB := Aside0.mk (hb); have ca3 := Aside0.mk (ho); clear ap; clear ho hb hg hat)))
      go_roundg k1
      case measure => have := HK1.out; omega
      case rel => exact ⟨(cz8), (wrap64 (d8 + 1)), (g2_), H', ⟨g9_⟩, ⟨by (with_reducible repeat (first | apply Kd.N_alloc | apply Kd.N_drewN | apply Kd.N_drew)); exact Kd.N_mono ca3.out (fun _ hk => ⟨hk.1, hk.2.2⟩)⟩, ⟨uf0_ a8⟩, ⟨de⟩⟩
     ·replace c8 := Bool.eq_false_iff.mpr c8
      subst c8
      replace H := ifn_ H
      have H' := Aside0.mk H
      clear H
      obtain ⟨bg3, bg4, bg5, bg6⟩ := blk2_ a8
      go_wp2_with (first | (go_at_call 42; (with_reducible refine (spec_BookOk.calls k1 _ _ ab _ _ aa false _ ?side1 ?side2 ?side3 ?side4 A7.out).mono ?_); (case side1 => exact uf2_ b7); (case side2 => exact cn.out); (case side3 => exact uf2_ bz); (case side4 => exact cr.out); rintro e we ⟨rfl, hb⟩; replace ap := Aside0.mk (Kd.N_below (uf4_ ap) hb); replace a8 := bb_ a8 hb; replace HB := Aside0.mk (below_step (de) hb); (try clear hb); (try clear hk hi)))
      repeat (go_quiet (first | (go_at_call 42; (with_reducible refine (spec_BookOk.calls k1 _ _ ab _ _ aa false _ ?side1 ?side2 ?side3 ?side4 A7.out).mono ?_); (case side1 => exact uf2_ b7); (case side2 => exact cn.out); (case side3 => exact uf2_ bz); (case side4 => exact cr.out); rintro e we ⟨rfl, hb⟩; replace ap := Aside0.mk (Kd.N_below (uf4_ ap) hb); replace a8 := bb_ a8 hb; replace HB := Aside0.mk (below_step (de) hb); (try clear hb); (try clear hk hi))); try go_wp2_with (first | (go_at_call 42; (with_reducible refine (spec_BookOk.calls k1 _ _ ab _ _ aa false _ ?side1 ?side2 ?side3 ?side4 A7.out).mono ?_); (case side1 => exact uf2_ b7); (case side2 => exact cn.out); (case side3 => exact uf2_ bz); (case side4 => exact cr.out); rintro e we ⟨rfl, hb⟩; replace ap := Aside0.mk (Kd.N_below (uf4_ ap) hb); replace a8 := bb_ a8 hb; replace HB := Aside0.mk (below_step (de) hb); (try clear hb); (try clear hk hi))))
      go_meet
      case rel => exact ⟨_, (dy), H', ⟨by have := HK1.out; first | omega | exact Nat.le_refl _⟩, ⟨uf4_ ap⟩, ⟨uf0_ a8⟩, ⟨de⟩⟩
    ·rw [if_neg c6] at H
     have gu := decide_eq_false c6
     clear c6
     (first | rw [gu] | (simp only [i64_w, i32_w]; rw [gu]) | skip)
     have H' := Aside0.mk H
     clear H
     obtain ⟨xr, xt, xu, xv⟩ := blk2_ a8
     go_wp2
     repeat (go_quiet (fail); try go_wp2)
     go_meet
     case rel => exact ⟨_, (dy), H', ⟨by have := HK1.out; first | omega | exact Nat.le_refl _⟩, ⟨uf4_ ap⟩, ⟨uf0_ a8⟩, ⟨de⟩⟩
 case rest =>
  clear pu
  try clear c1
  try clear p2
  try clear c6
  try clear gu
  try clear p6
  try clear c8
  try clear c9
  try clear db
  try clear yt
  try clear yu
  try clear ol
  try clear om
  try clear bg3
  try clear bg4
  try clear xr
  try clear xt
  try clear yv
  try clear yw
  try clear oo
  try clear op
  try clear bg5
  try clear bg6
  try clear xu
  try clear xv
  try clear p2
  obtain ⟨kq, dy, HA, HJ1, ap, a8, HB⟩ := hcut
  cases kq with
  | zero => exact absurd HA.out (by simp [spec_CirclesOf.j1])
  | succ kj1 =>
   have H := HA.out
   clear HA
   simp only [spec_CirclesOf.j1] at H
   have H' := Aside0.mk H
   clear H
   go_wp2
   repeat (go_quiet (fail); try go_wp2)
   go_loopg [5] kj1 (fun kq v5 w' => ∃ (bl : List (List Int)) (pg : Int), v5 = .int .i64 pg ∧ Aside0 (spec_CirclesOf.l1 kq bl pg = some r) ∧ Aside0 (kq ≤ kj1) ∧ Aside0 (Kd.N (Kd.slice 3 (Kd.int .i64)) 22 w' w.heap.size (fun k_ => (w.heap.size ≤ k_) ∧ k_ ≠ ax) u3 bl) ∧ Aside0 (w'.heap[ax]? = some (.cells #[(.slice af ab.length ae), (.slice ah aa.length ag)] 25 (0, 0))) ∧ Aside0 (Below w.heap.size w w'))
   case atStart => exact ⟨(dy), (1), (g2_), H', ⟨Nat.le_refl _⟩, ⟨uf4_ ap⟩, ⟨uf0_ a8⟩, ⟨de⟩⟩
   case round =>
    clear H'
    try clear c1
    try clear p2
    try clear c6
    try clear gu
    try clear p6
    try clear c8
    try clear c9
    try clear db
    try clear yt
    try clear yu
    try clear ol
    try clear om
    try clear bg3
    try clear bg4
    try clear xr
    try clear xt
    try clear yv
    try clear yw
    try clear oo
    try clear op
    try clear bg5
    try clear bg6
    try clear xu
    try clear xv
    try clear p2
    try clear p6
    obtain ⟨bl, pg, rfl, HA, HK2, ap, a8, HB⟩ := hrel
    cases gk with
    | zero => exact absurd HA.out (by simp [spec_CirclesOf.l1])
    | succ k2 =>
     have H := HA.out
     clear HA
     simp only [spec_CirclesOf.l1] at H
     by_cases ff : pg < (bl.length : Int)
     ·rw [if_pos ff] at H
      have zc := decide_eq_true ff
      clear ff
      have H' := Aside0.mk H
      clear H
      obtain ⟨wg, cd, ca4⟩ := Kd.N_slice ap.out
      subst ca4
      go_wp2
      repeat (go_quiet (fail); try go_wp2)
      go_loopg [6] k2 (fun kq v6 w' => ∃ (aq : List (List Int)) (bv : Int), v6 = .int .i64 bv ∧ Aside0 (spec_CirclesOf.l2 kq aq pg bv = some r) ∧ Aside0 (kq ≤ k2) ∧ Aside0 (Kd.N (Kd.slice 3 (Kd.int .i64)) 22 w' w.heap.size (fun k_ => (w.heap.size ≤ k_) ∧ k_ ≠ ax) (.slice wg bl.length cd) aq) ∧ Aside0 (w'.heap[ax]? = some (.cells #[(.slice af ab.length ae), (.slice ah aa.length ag)] 25 (0, 0))) ∧ Aside0 (Below w.heap.size w w'))
      case atStart => exact ⟨(bl), (pg), (g2_), H', ⟨Nat.le_refl _⟩, ⟨uf4_ ap⟩, ⟨uf0_ a8⟩, ⟨de⟩⟩
      case round =>
       clear H'
       (try clear c1); (try clear c2); (try clear p2); (try clear c6); (try clear gu); (try clear p6); (try clear c8); (try clear c9); (try clear db); (try clear ff); (try clear zc); (try clear yt); (try clear yu); (try clear ol); (try clear om); (try clear bg3); (try clear bg4); (try clear xr); (try clear xt); (try clear yv); (try clear yw); (try clear oo); (try clear op); (try clear bg5); (try clear bg6); (try clear xu); (try clear xv); (try clear p2); try clear p6
       obtain ⟨aq, bv, rfl, HA, HK3, ap, a8, HB⟩ := hrel
       have wh := (Kd.N_reads' ap.out).1
       rw [wh] at ap
       (try simp only [wh])
       (try simp only [wh] at a8)
       cases gk with
       | zero => exact absurd HA.out (by simp [spec_CirclesOf.l2])
       | succ k3 =>
        have H := HA.out
        clear HA
        simp only [spec_CirclesOf.l2] at H
        by_cases jn : bv > 0
        ·rw [if_pos jn] at H
         have ad1 := decide_eq_true jn
         clear jn
         obtain ⟨o1, H⟩ := pos_ H
         have bq8 := decide_eq_true o1
         clear o1
         obtain ⟨ec, H⟩ := pos_ H
         have ba6 := decide_eq_true ec
         clear ec
         obtain ⟨ji28, hji28⟩ : ∃ j_ : Int, (wrap64 (bv - 1)) = j_ := ⟨_, rfl⟩
         replace H : (if 0 ≤ (ji28) then (if (ji28) < (aq.length : Int) then ((spec_l3Before.f k3 (rd_L1 aq bv) (rd_L1 aq (ji28))).bind fun ap5 => (if ap5 = true then (spec_CirclesOf.l2 k3 ((aq.set (bv : Int).toNat (rd_L1 aq (ji28))).set ((ji28) : Int).toNat (rd_L1 aq bv)) pg ji28) else (spec_CirclesOf.l1 k3 aq (wrap64 (pg + 1))))) else (none)) else (none)) = some r := by first | (rw [hji28] at H; exact H) | (simp only [hji28] at H ⊢; exact H)
         have hji28w : (IntKind.i64.wrap (bv - 1)) = ji28 := (i64_w _).trans hji28
         obtain ⟨la, H⟩ := pos_ H
         have da2 := decide_eq_true la
         clear la
         obtain ⟨od, H⟩ := pos_ H
         have ao8 := decide_eq_true od
         clear od
         obtain ⟨ap5, wi, H⟩ := bind_ H
         by_cases ni : ap5 = true
         ·subst ni
          replace H := ifp_ H
          obtain ⟨qn, hy306⟩ : ∃ y_ : List (List Int), y_ = (aq.set (bv : Int).toNat (rd_L1 aq (ji28))) := ⟨_, rfl⟩
          replace H : (spec_CirclesOf.l2 k3 (qn.set ((ji28) : Int).toNat (rd_L1 aq bv)) pg ji28) = some r := by first | (rw [hy306]; with_reducible exact H) | (have H2_ := (Option.bind_some _ _).symm.trans H; rw [hy306]; with_reducible exact H2_) | (have H2_ := (Option.bind_some _ _).symm.trans H; with_reducible exact H2_) | with_reducible exact H | (rw [hy306]; exact H) | exact H
          have ca5 := Aside0.mk hy306
          clear hy306
          obtain ⟨ap6, hy307⟩ : ∃ y_ : List (List Int), y_ = (qn.set ((ji28) : Int).toNat (rd_L1 aq bv)) := ⟨_, rfl⟩
          replace H : (spec_CirclesOf.l2 k3 ap6 pg ji28) = some r := by first | (rw [hy307]; with_reducible exact H) | (have H2_ := (Option.bind_some _ _).symm.trans H; rw [hy307]; with_reducible exact H2_) | (have H2_ := (Option.bind_some _ _).symm.trans H; with_reducible exact H2_) | with_reducible exact H | (rw [hy307]; exact H) | exact H
          have ca6 := Aside0.mk hy307
          clear hy307
          have H' := Aside0.mk H
          clear H
          have t7 : 0 ≤ (bv : Int) := of_decide_eq_true (g0_)
          have t8 : bv < (aq.length : Int) := of_decide_eq_true (g0_)
          obtain ⟨t9, sa, sb, ca7, ua, ap7, ap8⟩ := at_L1 (Kd.N_reads' ap.out).2.2 bv t7 t8
          cases ca7
          obtain ⟨ce301, hce301, hMe301, hcc301⟩ := Kd.N_get ap.out [] bv t7 (by first | exact t8 | exact of_decide_eq_true (g0_) | (have e_ := (Kd.N_reads' ap.out).1; omega))
          obtain ⟨ua301_0, uc301_0, rfl, ul301_0, ge301_0⟩ := Kd.FK_slice_open hMe301
          have hv301_0 := hcc301 0 _ rfl
          rw [Nat.add_zero, show ((Kd.slice 3 (Kd.int .i64))).sz = 1 from rfl, Nat.mul_one] at hv301_0
          replace hv301_0 := Option.some.inj (hv301_0.symm.trans ua)
          injection hv301_0 with hva_ hvn_ hvc_
          rw [hva_] at ge301_0
          rw [hvc_] at ul301_0
          have gn := Aside0.mk (show Kd.V (Kd.int .i64) 3 _ w.heap.size _ _ (rd_L1 aq bv) from Kd.V_mk ul301_0 ge301_0)
          clear hva_ hvn_ hvc_ ge301_0 ul301_0
          clear hcc301 hce301
          have ca8 := Aside0.mk ap8
          have aa2 := Aside0.mk ap7
          clear ap8 ap7
          replace t7 := eq_true t7
          replace t8 := eq_true t8
          have ub : 0 ≤ ((ji28) : Int) := of_decide_eq_true (g0_)
          have uc : (ji28) < (aq.length : Int) := of_decide_eq_true (g0_)
          obtain ⟨ca9, sc, sd, cb0, ud, ap9, aq0⟩ := at_L1 (Kd.N_reads' ap.out).2.2 (ji28) ub uc
          obtain rfl : t9 = ca9 := (by injection cb0)
          obtain ⟨ce302, hce302, hMe302, hcc302⟩ := Kd.N_get ap.out [] (ji28) ub (by first | exact uc | exact of_decide_eq_true (g0_) | (have e_ := (Kd.N_reads' ap.out).1; omega))
          obtain ⟨ua302_0, uc302_0, rfl, ul302_0, ge302_0⟩ := Kd.FK_slice_open hMe302
          have hv302_0 := hcc302 0 _ rfl
          rw [Nat.add_zero, show ((Kd.slice 3 (Kd.int .i64))).sz = 1 from rfl, Nat.mul_one] at hv302_0
          replace hv302_0 := Option.some.inj (hv302_0.symm.trans ud)
          injection hv302_0 with hva_ hvn_ hvc_
          rw [hva_] at ge302_0
          rw [hvc_] at ul302_0
          have go := Aside0.mk (show Kd.V (Kd.int .i64) 3 _ w.heap.size _ _ (rd_L1 aq (ji28)) from Kd.V_mk ul302_0 ge302_0)
          clear hva_ hvn_ hvc_ ge302_0 ul302_0
          clear hcc302 hce302
          have cb1 := Aside0.mk aq0
          have aa3 := Aside0.mk ap9
          clear aq0 ap9
          replace ub := eq_true ub
          replace uc := eq_true uc
          go_wp2_with (first | (go_at_call 114; (with_reducible refine (spec_l3Before.calls k3 _ _ (rd_L1 aq bv) _ _ (rd_L1 aq (ji28)) true _ ?side1 ?side2 ?side3 ?side4 wi.out).mono ?_); (case side1 => repeat (first | exact (g33_) | (with_reducible refine Kd.C_alloc ?_ _) | (with_reducible refine Kd.C_drewN ?_ _) | (with_reducible refine Kd.C_drew ?_))); (case side2 => exact aa2.out); (case side3 => repeat (first | exact (g34_) | (with_reducible refine Kd.C_alloc ?_ _) | (with_reducible refine Kd.C_drewN ?_ _) | (with_reducible refine Kd.C_drew ?_))); (case side4 => exact aa3.out); rintro e w' ⟨rfl, ⟨nd, rfl⟩⟩; (try first | exact ⟨rfl, _, World.drewN_drewN _ _ _⟩ | exact ⟨rfl, _, Eq.trans (World.drewN_drewN _ _ _) (congrArg (World.drewN _) (Nat.add_assoc _ _ _))⟩); have nk : 0 ≤ (bv : Int) := of_decide_eq_true (g0_); have ph : bv < (aq.length : Int) := of_decide_eq_true (g0_); obtain ⟨aq1, da3, da4, aq2, qo, wj, wk⟩ := at_L1 (Kd.N_reads' ap.out).2.2 bv nk ph; obtain rfl : t9 = aq1 := (by injection aq2); obtain ⟨ce304, hce304, hMe304, hcc304⟩ := Kd.N_get ap.out [] bv nk (g80_); obtain ⟨ua304_0, uc304_0, rfl, ul304_0, ge304_0⟩ := Kd.FK_slice_open hMe304; have hv304_0 := hcc304 0 _ rfl; rw [Nat.add_zero, show ((Kd.slice 3 (Kd.int .i64))).sz = 1 from rfl, Nat.mul_one] at hv304_0; replace hv304_0 := Option.some.inj (hv304_0.symm.trans qo); injection hv304_0 with hva_ hvn_ hvc_; rw [hva_] at ge304_0; rw [hvc_] at ul304_0; have d9 := Aside0.mk (show Kd.V (Kd.int .i64) 3 _ w.heap.size _ _ (rd_L1 aq bv) from Kd.V_mk ul304_0 ge304_0); clear hva_ hvn_ hvc_ ge304_0 ul304_0; clear hcc304 hce304; have da5 := Aside0.mk wk; have da6 := Aside0.mk wj; clear wk wj; replace nk := eq_true nk; replace ph := eq_true ph; have ea_ := Option.some.inj (ua.symm.trans qo); injection ea_ with ea_ en_ ec_; subst ea_; subst ec_; clear en_; have nl : 0 ≤ ((ji28) : Int) := of_decide_eq_true (g0_); have pi : (ji28) < (aq.length : Int) := of_decide_eq_true (g0_); obtain ⟨aq3, da7, da8, aq4, qp, wl, wm⟩ := at_L1 (Kd.N_reads' ap.out).2.2 (ji28) nl pi; obtain rfl : t9 = aq3 := (by injection aq4); obtain ⟨ce305, hce305, hMe305, hcc305⟩ := Kd.N_get ap.out [] (ji28) nl (g81_); obtain ⟨ua305_0, uc305_0, rfl, ul305_0, ge305_0⟩ := Kd.FK_slice_open hMe305; have hv305_0 := hcc305 0 _ rfl; rw [Nat.add_zero, show ((Kd.slice 3 (Kd.int .i64))).sz = 1 from rfl, Nat.mul_one] at hv305_0; replace hv305_0 := Option.some.inj (hv305_0.symm.trans qp); injection hv305_0 with hva_ hvn_ hvc_; rw [hva_] at ge305_0; rw [hvc_] at ul305_0; have ea := Aside0.mk (show Kd.V (Kd.int .i64) 3 _ w.heap.size _ _ (rd_L1 aq (ji28)) from Kd.V_mk ul305_0 ge305_0); clear hva_ hvn_ hvc_ ge305_0 ul305_0; clear hcc305 hce305; have da9 := Aside0.mk wm; have db0 := Aside0.mk wl; clear wm wl; replace nl := eq_true nl; replace pi := eq_true pi; have ea_ := Option.some.inj (ud.symm.trans qp); injection ea_ with ea_ en_ ec_; subst ea_; subst ec_; clear en_; have qq : 0 ≤ (bv : Int) := of_decide_eq_true (g0_); have qr : (bv : Int) < ((aq.length : Int) : Int) := of_decide_eq_true (g0_); obtain ⟨bq, db1, wn, wo, gl33, cl33, HG33⟩ := Kd.N_form ap.out (by omega); (first | cases wn | (injection wn with ea_ en_ ec_; (first | subst ea_ | (injection ea_ with ea_; subst ea_)); subst ec_; clear en_)); have GB33 := Aside0.mk wo; have GG33 := Aside0.mk HG33; clear wo gl33 HG33; (first | simp only [add_plain] at ua | skip); (first | simp only [add_plain] at ud | skip); (first | simp only [add_plain] at qo | skip); (first | simp only [add_plain] at qp | skip); obtain ⟨ce33, hcl33, hM33, hcc33, hfr33⟩ := Kd.N_elem ap.out [] (bv : Int) qq qr; obtain ⟨ua33_0, uc33_0, rfl, ul33_0, ge33_0⟩ := Kd.FK_slice_open hM33; have aq5 := hcc33 0 _ rfl; have hf33_0 := hfr33 0; (try simp only [show ((Kd.slice 3 (Kd.int .i64))).sz = 1 from rfl, Nat.mul_one, Nat.add_zero] at aq5); (try simp only [show ((Kd.slice 3 (Kd.int .i64))).sz = 1 from rfl, Nat.mul_one, Nat.add_zero] at hf33_0); clear hcl33 hcc33 hfr33 hM33; replace qq := eq_true qq; replace qr := eq_true qr; have HX35 := Aside0.mk (show Kd.N (Kd.slice 3 (Kd.int .i64)) 22 wr w.heap.size (fun k_ => (w.heap.size ≤ k_) ∧ k_ ≠ ax) (.slice (some ⟨bq, 0, none⟩) aq.length cd) aq from (uf4_ ap)); obtain ⟨ce35, hcl35, hM35, hcc35, hfr35⟩ := Kd.N_elem HX35.out [] (bv : Int) (of_decide_eq_true (g0_)) (by have h_ : (bv : Int) < ((aq.length : Int) : Int) := of_decide_eq_true (g0_); first | exact h_ | (have e_ := (Kd.N_reads' ap.out).1; omega) | simpa using h_); obtain ⟨ua35_0, uc35_0, rfl, ul35_0, ge35_0⟩ := Kd.FK_slice_open hM35; have HP35 := Kd.N_seg HX35.out (bv : Int) (of_decide_eq_true (g0_)) (by have h_ : (bv : Int) < ((aq.length : Int) : Int) := of_decide_eq_true (g0_); first | exact h_ | (have e_ := (Kd.N_reads' ap.out).1; omega) | simpa using h_) (seg := [.slice sc (rd_L1 aq (ji28)).length sd]) (j := 0) hcl35 hcc35 (show 1 ≤ 1 from by decide) (x' := rd_L1 aq (ji28)) (Kd.FK_slice_mk (Kd.V_reads' (Kd.V_mono (ok' := (fun k_ => ((fun k_ => (w.heap.size ≤ k_) ∧ k_ ≠ ax)) k_ ∧ k_ ≠ bq)) (ea.out) (fun k_ hk => ⟨⟨hk.1.1, hk.1.2⟩, fun e_ => (hk.2) (g7_)⟩))).2.1 (Kd.V_F (Kd.V_mono (ok' := (fun k_ => ((fun k_ => (w.heap.size ≤ k_) ∧ k_ ≠ ax)) k_ ∧ k_ ≠ bq)) (ea.out) (fun k_ hk => ⟨⟨hk.1.1, hk.1.2⟩, fun e_ => (hk.2) (g7_)⟩)))) (fun _ hk => hk); have qs := hcc35 0 _ rfl; (try simp only [show ((Kd.slice 3 (Kd.int .i64))).sz = 1 from rfl, Nat.mul_one, Nat.add_zero] at qs); have hf35_0 := hfr35 0; (try simp only [show ((Kd.slice 3 (Kd.int .i64))).sz = 1 from rfl, Nat.mul_one, Nat.add_zero] at hf35_0); clear hcl35 hcc35 hfr35 hM35; (try simp only [show ((Kd.slice 3 (Kd.int .i64))).sz = 1 from rfl, Nat.mul_one, Nat.add_zero] at HP35); (try simp only [show ((Kd.slice 3 (Kd.int .i64))).sz = 1 from rfl, Nat.mul_one, Nat.add_zero] at HP35)) | ((with_reducible refine gate_store (t := 22) (p := 60) rfl ?_); (try (rw [drewN_self wr]; generalize hq_ : World.drewN wr _ = wr; replace ap := Aside0.mk (Kd.N_at hq_ ap.out); replace gn := Aside0.mk (spec_CirclesOf.V_atq hq_ gn.out); replace go := Aside0.mk (spec_CirclesOf.V_atq hq_ go.out); replace d9 := Aside0.mk (spec_CirclesOf.V_atq hq_ d9.out); replace ea := Aside0.mk (spec_CirclesOf.V_atq hq_ ea.out); replace a8 := Aside0.mk (blk_at hq_ a8.out); replace HB := Aside0.mk (below_at hq_ HB.out); clear hq_; (try (have HX35 := Aside0.mk (show Kd.N (Kd.slice 3 (Kd.int .i64)) 22 wr w.heap.size (fun k_ => (w.heap.size ≤ k_) ∧ k_ ≠ ax) (.slice (some ⟨bq, 0, none⟩) aq.length cd) aq from (uf4_ ap)))); (try (obtain ⟨ce35, hcl35, hM35, hcc35, hfr35⟩ := Kd.N_elem HX35.out [] (bv : Int) (of_decide_eq_true (g0_)) (by have h_ : (bv : Int) < ((aq.length : Int) : Int) := of_decide_eq_true (g0_); first | exact h_ | (have e_ := (Kd.N_reads' ap.out).1; omega) | simpa using h_))); (try (obtain ⟨ua35_0, uc35_0, rfl, ul35_0, ge35_0⟩ := Kd.FK_slice_open hM35)); (try (have HP35 := Kd.N_seg HX35.out (bv : Int) (of_decide_eq_true (g0_)) (by have h_ : (bv : Int) < ((aq.length : Int) : Int) := of_decide_eq_true (g0_); first | exact h_ | (have e_ := (Kd.N_reads' ap.out).1; omega) | simpa using h_) (seg := [.slice sc (rd_L1 aq (ji28)).length sd]) (j := 0) hcl35 hcc35 (show 1 ≤ 1 from by decide) (x' := rd_L1 aq (ji28)) (Kd.FK_slice_mk (Kd.V_reads' (Kd.V_mono (ok' := (fun k_ => ((fun k_ => (w.heap.size ≤ k_) ∧ k_ ≠ ax)) k_ ∧ k_ ≠ bq)) (ea.out) (fun k_ hk => ⟨⟨hk.1.1, hk.1.2⟩, fun e_ => (hk.2) (g7_)⟩))).2.1 (Kd.V_F (Kd.V_mono (ok' := (fun k_ => ((fun k_ => (w.heap.size ≤ k_) ∧ k_ ≠ ax)) k_ ∧ k_ ≠ bq)) (ea.out) (fun k_ hk => ⟨⟨hk.1.1, hk.1.2⟩, fun e_ => (hk.2) (g7_)⟩)))) (fun _ hk => hk))); (try (have qs := hcc35 0 _ rfl)); (try (try simp only [show ((Kd.slice 3 (Kd.int .i64))).sz = 1 from rfl, Nat.mul_one, Nat.add_zero] at qs)); (try (have hf35_0 := hfr35 0)); (try (try simp only [show ((Kd.slice 3 (Kd.int .i64))).sz = 1 from rfl, Nat.mul_one, Nat.add_zero] at hf35_0)); (try (clear hcl35 hcc35 hfr35 hM35)); (try (try simp only [show ((Kd.slice 3 (Kd.int .i64))).sz = 1 from rfl, Nat.mul_one, Nat.add_zero] at HP35)); (try (try simp only [show ((Kd.slice 3 (Kd.int .i64))).sz = 1 from rfl, Nat.mul_one, Nat.add_zero] at HP35)))); refine store_event (t := 22) (p := 60) (v := ?vo_w36) (w1 := (wr.setCell ⟨bq, (bv : Int).toNat, none⟩ (.slice sc (rd_L1 aq (ji28)).length sd))) ?hg ?ho ?hn ?hr ?_; (case ho => rfl); (case hg => rfl); (case hn => rfl); (case hr => first | (go_simp; done) | (go_simp; rfl)); intro ei hw; have hg : wr.grownBy ei (some bq) := (by rw [hw]; exact HP35.2); have hp_ : Kd.N (Kd.slice 3 (Kd.int .i64)) 22 ei w.heap.size (fun k_ => (w.heap.size ≤ k_) ∧ k_ ≠ ax) (.slice (some ⟨bq, 0, none⟩) aq.length cd) qn := (by rw [hw, ca5.out]; exact HP35.1); clear HP35; replace a8 := Aside0.mk (blk_grown (g := ax) (o := .cells #[.slice af ab.length ae, .slice ah aa.length ag] 25 (0, 0)) (uf0_ a8) hg (Kd.N_ne ap.out a8.out (by decide))); replace ap := Aside0.mk (hp_); replace gn := Aside0.mk (Kd.V_afterv (v := (.slice (some ⟨bq, 0, none⟩) aq.length cd)) (v1 := (.slice (some ⟨bq, 0, none⟩) aq.length cd)) (ok := (fun k_ => (w.heap.size ≤ k_) ∧ k_ ≠ ax)) (uf5_ gn) hg (.inl rfl)); replace go := Aside0.mk (Kd.V_afterv (v := (.slice (some ⟨bq, 0, none⟩) aq.length cd)) (v1 := (.slice (some ⟨bq, 0, none⟩) aq.length cd)) (ok := (fun k_ => (w.heap.size ≤ k_) ∧ k_ ≠ ax)) (uf5_ go) hg (.inl rfl)); replace d9 := Aside0.mk (Kd.V_afterv (v := (.slice (some ⟨bq, 0, none⟩) aq.length cd)) (v1 := (.slice (some ⟨bq, 0, none⟩) aq.length cd)) (ok := (fun k_ => (w.heap.size ≤ k_) ∧ k_ ≠ ax)) (uf5_ d9) hg (.inl rfl)); replace ea := Aside0.mk (Kd.V_afterv (v := (.slice (some ⟨bq, 0, none⟩) aq.length cd)) (v1 := (.slice (some ⟨bq, 0, none⟩) aq.length cd)) (ok := (fun k_ => (w.heap.size ≤ k_) ∧ k_ ≠ ax)) (uf5_ ea) hg (.inl rfl)); replace HB := Aside0.mk ((g35_ : Below w.heap.size w ei)); clear hg hw hp_; have qt : 0 ≤ ((ji28) : Int) := of_decide_eq_true (g0_); have qu : ((ji28) : Int) < ((aq.length : Int) : Int) := of_decide_eq_true (g0_); obtain ⟨ce34, hcl34, hM34, hcc34, hfr34⟩ := Kd.N_elem ap.out [] ((ji28) : Int) qt qu; obtain ⟨ua34_0, uc34_0, rfl, ul34_0, ge34_0⟩ := Kd.FK_slice_open hM34; have aq6 := hcc34 0 _ rfl; have hf34_0 := hfr34 0; (try simp only [show ((Kd.slice 3 (Kd.int .i64))).sz = 1 from rfl, Nat.mul_one, Nat.add_zero] at aq6); (try simp only [show ((Kd.slice 3 (Kd.int .i64))).sz = 1 from rfl, Nat.mul_one, Nat.add_zero] at hf34_0); clear hcl34 hcc34 hfr34 hM34; replace qt := eq_true qt; replace qu := eq_true qu; have HX37 := Aside0.mk (show Kd.N (Kd.slice 3 (Kd.int .i64)) 22 ei w.heap.size (fun k_ => (w.heap.size ≤ k_) ∧ k_ ≠ ax) (.slice (some ⟨bq, 0, none⟩) aq.length cd) qn from (uf4_ ap)); obtain ⟨ce37, hcl37, hM37, hcc37, hfr37⟩ := Kd.N_elem HX37.out [] ((ji28) : Int) (of_decide_eq_true (g0_)) (by have h_ : ((ji28) : Int) < ((aq.length : Int) : Int) := of_decide_eq_true (g0_); first | exact h_ | (have e_ := (Kd.N_reads' ap.out).1; omega) | simpa using h_); obtain ⟨ua37_0, uc37_0, rfl, ul37_0, ge37_0⟩ := Kd.FK_slice_open hM37; have HP37 := Kd.N_seg HX37.out ((ji28) : Int) (of_decide_eq_true (g0_)) (by have h_ : ((ji28) : Int) < ((aq.length : Int) : Int) := of_decide_eq_true (g0_); first | exact h_ | (have e_ := (Kd.N_reads' ap.out).1; omega) | simpa using h_) (seg := [.slice sa (rd_L1 aq bv).length sb]) (j := 0) hcl37 hcc37 (show 1 ≤ 1 from by decide) (x' := rd_L1 aq bv) (Kd.FK_slice_mk (Kd.V_reads' (Kd.V_mono (ok' := (fun k_ => ((fun k_ => (w.heap.size ≤ k_) ∧ k_ ≠ ax)) k_ ∧ k_ ≠ bq)) (d9.out) (fun k_ hk => ⟨⟨hk.1.1, hk.1.2⟩, fun e_ => (hk.2) (g7_)⟩))).2.1 (Kd.V_F (Kd.V_mono (ok' := (fun k_ => ((fun k_ => (w.heap.size ≤ k_) ∧ k_ ≠ ax)) k_ ∧ k_ ≠ bq)) (d9.out) (fun k_ hk => ⟨⟨hk.1.1, hk.1.2⟩, fun e_ => (hk.2) (g7_)⟩)))) (fun _ hk => hk); have qv := hcc37 0 _ rfl; (try simp only [show ((Kd.slice 3 (Kd.int .i64))).sz = 1 from rfl, Nat.mul_one, Nat.add_zero] at qv); have hf37_0 := hfr37 0; (try simp only [show ((Kd.slice 3 (Kd.int .i64))).sz = 1 from rfl, Nat.mul_one, Nat.add_zero] at hf37_0); clear hcl37 hcc37 hfr37 hM37; (try simp only [show ((Kd.slice 3 (Kd.int .i64))).sz = 1 from rfl, Nat.mul_one, Nat.add_zero] at HP37); (try simp only [show ((Kd.slice 3 (Kd.int .i64))).sz = 1 from rfl, Nat.mul_one, Nat.add_zero] at HP37)) | ((with_reducible refine gate_store (t := 22) (p := 65) rfl ?_); (try (rw [drewN_self ei]; generalize hq_ : World.drewN ei _ = ei; replace ap := Aside0.mk (Kd.N_at hq_ ap.out); replace gn := Aside0.mk (spec_CirclesOf.V_atq hq_ gn.out); replace go := Aside0.mk (spec_CirclesOf.V_atq hq_ go.out); replace d9 := Aside0.mk (spec_CirclesOf.V_atq hq_ d9.out); replace ea := Aside0.mk (spec_CirclesOf.V_atq hq_ ea.out); replace a8 := Aside0.mk (blk_at hq_ a8.out); replace HB := Aside0.mk (below_at hq_ HB.out); clear hq_; (try (have HX37 := Aside0.mk (show Kd.N (Kd.slice 3 (Kd.int .i64)) 22 ei w.heap.size (fun k_ => (w.heap.size ≤ k_) ∧ k_ ≠ ax) (.slice (some ⟨bq, 0, none⟩) aq.length cd) qn from (uf4_ ap)))); (try (obtain ⟨ce37, hcl37, hM37, hcc37, hfr37⟩ := Kd.N_elem HX37.out [] ((ji28) : Int) (of_decide_eq_true (g0_)) (by have h_ : ((ji28) : Int) < ((aq.length : Int) : Int) := of_decide_eq_true (g0_); first | exact h_ | (have e_ := (Kd.N_reads' ap.out).1; omega) | simpa using h_))); (try (obtain ⟨ua37_0, uc37_0, rfl, ul37_0, ge37_0⟩ := Kd.FK_slice_open hM37)); (try (have HP37 := Kd.N_seg HX37.out ((ji28) : Int) (of_decide_eq_true (g0_)) (by have h_ : ((ji28) : Int) < ((aq.length : Int) : Int) := of_decide_eq_true (g0_); first | exact h_ | (have e_ := (Kd.N_reads' ap.out).1; omega) | simpa using h_) (seg := [.slice sa (rd_L1 aq bv).length sb]) (j := 0) hcl37 hcc37 (show 1 ≤ 1 from by decide) (x' := rd_L1 aq bv) (Kd.FK_slice_mk (Kd.V_reads' (Kd.V_mono (ok' := (fun k_ => ((fun k_ => (w.heap.size ≤ k_) ∧ k_ ≠ ax)) k_ ∧ k_ ≠ bq)) (d9.out) (fun k_ hk => ⟨⟨hk.1.1, hk.1.2⟩, fun e_ => (hk.2) (g7_)⟩))).2.1 (Kd.V_F (Kd.V_mono (ok' := (fun k_ => ((fun k_ => (w.heap.size ≤ k_) ∧ k_ ≠ ax)) k_ ∧ k_ ≠ bq)) (d9.out) (fun k_ hk => ⟨⟨hk.1.1, hk.1.2⟩, fun e_ => (hk.2) (g7_)⟩)))) (fun _ hk => hk))); (try (have qv := hcc37 0 _ rfl)); (try (try simp only [show ((Kd.slice 3 (Kd.int .i64))).sz = 1 from rfl, Nat.mul_one, Nat.add_zero] at qv)); (try (have hf37_0 := hfr37 0)); (try (try simp only [show ((Kd.slice 3 (Kd.int .i64))).sz = 1 from rfl, Nat.mul_one, Nat.add_zero] at hf37_0)); (try (clear hcl37 hcc37 hfr37 hM37)); (try (try simp only [show ((Kd.slice 3 (Kd.int .i64))).sz = 1 from rfl, Nat.mul_one, Nat.add_zero] at HP37)); (try (try simp only [show ((Kd.slice 3 (Kd.int .i64))).sz = 1 from rfl, Nat.mul_one, Nat.add_zero] at HP37)))); refine store_event (t := 22) (p := 65) (v := ?vo_w38) (w1 := (ei.setCell ⟨bq, ((ji28) : Int).toNat, none⟩ (.slice sa (rd_L1 aq bv).length sb))) ?hg ?ho ?hn ?hr ?_; (case ho => rfl); (case hg => rfl); (case hn => rfl); (case hr => first | (go_simp; done) | (go_simp; rfl)); intro qw hw; have hg : ei.grownBy qw (some bq) := (by rw [hw]; exact HP37.2); have hp_ : Kd.N (Kd.slice 3 (Kd.int .i64)) 22 qw w.heap.size (fun k_ => (w.heap.size ≤ k_) ∧ k_ ≠ ax) (.slice (some ⟨bq, 0, none⟩) aq.length cd) ap6 := (by rw [hw, ca6.out]; exact HP37.1); clear HP37; replace a8 := Aside0.mk (blk_grown (g := ax) (o := .cells #[.slice af ab.length ae, .slice ah aa.length ag] 25 (0, 0)) (uf0_ a8) hg (Kd.N_ne ap.out a8.out (by decide))); replace ap := Aside0.mk (hp_); replace gn := Aside0.mk (Kd.V_afterv (v := (.slice (some ⟨bq, 0, none⟩) aq.length cd)) (v1 := (.slice (some ⟨bq, 0, none⟩) aq.length cd)) (ok := (fun k_ => (w.heap.size ≤ k_) ∧ k_ ≠ ax)) (uf5_ gn) hg (.inl rfl)); replace go := Aside0.mk (Kd.V_afterv (v := (.slice (some ⟨bq, 0, none⟩) aq.length cd)) (v1 := (.slice (some ⟨bq, 0, none⟩) aq.length cd)) (ok := (fun k_ => (w.heap.size ≤ k_) ∧ k_ ≠ ax)) (uf5_ go) hg (.inl rfl)); replace d9 := Aside0.mk (Kd.V_afterv (v := (.slice (some ⟨bq, 0, none⟩) aq.length cd)) (v1 := (.slice (some ⟨bq, 0, none⟩) aq.length cd)) (ok := (fun k_ => (w.heap.size ≤ k_) ∧ k_ ≠ ax)) (uf5_ d9) hg (.inl rfl)); replace ea := Aside0.mk (Kd.V_afterv (v := (.slice (some ⟨bq, 0, none⟩) aq.length cd)) (v1 := (.slice (some ⟨bq, 0, none⟩) aq.length cd)) (ok := (fun k_ => (w.heap.size ≤ k_) ∧ k_ ≠ ax)) (uf5_ ea) hg (.inl rfl)); replace HB := Aside0.mk ((g35_ : Below w.heap.size w qw)); clear hg hw hp_))
          repeat (go_quiet (first | (go_at_call 114; (with_reducible refine (spec_l3Before.calls k3 _ _ (rd_L1 aq bv) _ _ (rd_L1 aq (ji28)) true _ ?side1 ?side2 ?side3 ?side4 wi.out).mono ?_); (case side1 => repeat (first | exact (g33_) | (with_reducible refine Kd.C_alloc ?_ _) | (with_reducible refine Kd.C_drewN ?_ _) | (with_reducible refine Kd.C_drew ?_))); (case side2 => exact aa2.out); (case side3 => repeat (first | exact (g34_) | (with_reducible refine Kd.C_alloc ?_ _) | (with_reducible refine Kd.C_drewN ?_ _) | (with_reducible refine Kd.C_drew ?_))); (case side4 => exact aa3.out); rintro e w' ⟨rfl, ⟨nd, rfl⟩⟩; (try first | exact ⟨rfl, _, World.drewN_drewN _ _ _⟩ | exact ⟨rfl, _, Eq.trans (World.drewN_drewN _ _ _) (congrArg (World.drewN _) (Nat.add_assoc _ _ _))⟩); have nk : 0 ≤ (bv : Int) := of_decide_eq_true (g0_); have ph : bv < (aq.length : Int) := of_decide_eq_true (g0_); obtain ⟨aq1, da3, da4, aq2, qo, wj, wk⟩ := at_L1 (Kd.N_reads' ap.out).2.2 bv nk ph; obtain rfl : t9 = aq1 := (by injection aq2); obtain ⟨ce304, hce304, hMe304, hcc304⟩ := Kd.N_get ap.out [] bv nk (g80_); obtain ⟨ua304_0, uc304_0, rfl, ul304_0, ge304_0⟩ := Kd.FK_slice_open hMe304; have hv304_0 := hcc304 0 _ rfl; rw [Nat.add_zero, show ((Kd.slice 3 (Kd.int .i64))).sz = 1 from rfl, Nat.mul_one] at hv304_0; replace hv304_0 := Option.some.inj (hv304_0.symm.trans qo); injection hv304_0 with hva_ hvn_ hvc_; rw [hva_] at ge304_0; rw [hvc_] at ul304_0; have d9 := Aside0.mk (show Kd.V (Kd.int .i64) 3 _ w.heap.size _ _ (rd_L1 aq bv) from Kd.V_mk ul304_0 ge304_0); clear hva_ hvn_ hvc_ ge304_0 ul304_0; clear hcc304 hce304; have da5 := Aside0.mk wk; have da6 := Aside0.mk wj; clear wk wj; replace nk := eq_true nk; replace ph := eq_true ph; have ea_ := Option.some.inj (ua.symm.trans qo); injection ea_ with ea_ en_ ec_; subst ea_; subst ec_; clear en_; have nl : 0 ≤ ((ji28) : Int) := of_decide_eq_true (g0_); have pi : (ji28) < (aq.length : Int) := of_decide_eq_true (g0_); obtain ⟨aq3, da7, da8, aq4, qp, wl, wm⟩ := at_L1 (Kd.N_reads' ap.out).2.2 (ji28) nl pi; obtain rfl : t9 = aq3 := (by injection aq4); obtain ⟨ce305, hce305, hMe305, hcc305⟩ := Kd.N_get ap.out [] (ji28) nl (g81_); obtain ⟨ua305_0, uc305_0, rfl, ul305_0, ge305_0⟩ := Kd.FK_slice_open hMe305; have hv305_0 := hcc305 0 _ rfl; rw [Nat.add_zero, show ((Kd.slice 3 (Kd.int .i64))).sz = 1 from rfl, Nat.mul_one] at hv305_0; replace hv305_0 := Option.some.inj (hv305_0.symm.trans qp); injection hv305_0 with hva_ hvn_ hvc_; rw [hva_] at ge305_0; rw [hvc_] at ul305_0; have ea := Aside0.mk (show Kd.V (Kd.int .i64) 3 _ w.heap.size _ _ (rd_L1 aq (ji28)) from Kd.V_mk ul305_0 ge305_0); clear hva_ hvn_ hvc_ ge305_0 ul305_0; clear hcc305 hce305; have da9 := Aside0.mk wm; have db0 := Aside0.mk wl; clear wm wl; replace nl := eq_true nl; replace pi := eq_true pi; have ea_ := Option.some.inj (ud.symm.trans qp); injection ea_ with ea_ en_ ec_; subst ea_; subst ec_; clear en_; have qq : 0 ≤ (bv : Int) := of_decide_eq_true (g0_); have qr : (bv : Int) < ((aq.length : Int) : Int) := of_decide_eq_true (g0_); obtain ⟨bq, db1, wn, wo, gl33, cl33, HG33⟩ := Kd.N_form ap.out (by omega); (first | cases wn | (injection wn with ea_ en_ ec_; (first | subst ea_ | (injection ea_ with ea_; subst ea_)); subst ec_; clear en_)); have GB33 := Aside0.mk wo; have GG33 := Aside0.mk HG33; clear wo gl33 HG33; (first | simp only [add_plain] at ua | skip); (first | simp only [add_plain] at ud | skip); (first | simp only [add_plain] at qo | skip); (first | simp only [add_plain] at qp | skip); obtain ⟨ce33, hcl33, hM33, hcc33, hfr33⟩ := Kd.N_elem ap.out [] (bv : Int) qq qr; obtain ⟨ua33_0, uc33_0, rfl, ul33_0, ge33_0⟩ := Kd.FK_slice_open hM33; have aq5 := hcc33 0 _ rfl; have hf33_0 := hfr33 0; (try simp only [show ((Kd.slice 3 (Kd.int .i64))).sz = 1 from rfl, Nat.mul_one, Nat.add_zero] at aq5); (try simp only [show ((Kd.slice 3 (Kd.int .i64))).sz = 1 from rfl, Nat.mul_one, Nat.add_zero] at hf33_0); clear hcl33 hcc33 hfr33 hM33; replace qq := eq_true qq; replace qr := eq_true qr; have HX35 := Aside0.mk (show Kd.N (Kd.slice 3 (Kd.int .i64)) 22 wr w.heap.size (fun k_ => (w.heap.size ≤ k_) ∧ k_ ≠ ax) (.slice (some ⟨bq, 0, none⟩) aq.length cd) aq from (uf4_ ap)); obtain ⟨ce35, hcl35, hM35, hcc35, hfr35⟩ := Kd.N_elem HX35.out [] (bv : Int) (of_decide_eq_true (g0_)) (by have h_ : (bv : Int) < ((aq.length : Int) : Int) := of_decide_eq_true (g0_); first | exact h_ | (have e_ := (Kd.N_reads' ap.out).1; omega) | simpa using h_); obtain ⟨ua35_0, uc35_0, rfl, ul35_0, ge35_0⟩ := Kd.FK_slice_open hM35; have HP35 := Kd.N_seg HX35.out (bv : Int) (of_decide_eq_true (g0_)) (by have h_ : (bv : Int) < ((aq.length : Int) : Int) := of_decide_eq_true (g0_); first | exact h_ | (have e_ := (Kd.N_reads' ap.out).1; omega) | simpa using h_) (seg := [.slice sc (rd_L1 aq (ji28)).length sd]) (j := 0) hcl35 hcc35 (show 1 ≤ 1 from by decide) (x' := rd_L1 aq (ji28)) (Kd.FK_slice_mk (Kd.V_reads' (Kd.V_mono (ok' := (fun k_ => ((fun k_ => (w.heap.size ≤ k_) ∧ k_ ≠ ax)) k_ ∧ k_ ≠ bq)) (ea.out) (fun k_ hk => ⟨⟨hk.1.1, hk.1.2⟩, fun e_ => (hk.2) (g7_)⟩))).2.1 (Kd.V_F (Kd.V_mono (ok' := (fun k_ => ((fun k_ => (w.heap.size ≤ k_) ∧ k_ ≠ ax)) k_ ∧ k_ ≠ bq)) (ea.out) (fun k_ hk => ⟨⟨hk.1.1, hk.1.2⟩, fun e_ => (hk.2) (g7_)⟩)))) (fun _ hk => hk); have qs := hcc35 0 _ rfl; (try simp only [show ((Kd.slice 3 (Kd.int .i64))).sz = 1 from rfl, Nat.mul_one, Nat.add_zero] at qs); have hf35_0 := hfr35 0; (try simp only [show ((Kd.slice 3 (Kd.int .i64))).sz = 1 from rfl, Nat.mul_one, Nat.add_zero] at hf35_0); clear hcl35 hcc35 hfr35 hM35; (try simp only [show ((Kd.slice 3 (Kd.int .i64))).sz = 1 from rfl, Nat.mul_one, Nat.add_zero] at HP35); (try simp only [show ((Kd.slice 3 (Kd.int .i64))).sz = 1 from rfl, Nat.mul_one, Nat.add_zero] at HP35)) | ((with_reducible refine gate_store (t := 22) (p := 60) rfl ?_); (try (rw [drewN_self wr]; generalize hq_ : World.drewN wr _ = wr; replace ap := Aside0.mk (Kd.N_at hq_ ap.out); replace gn := Aside0.mk (spec_CirclesOf.V_atq hq_ gn.out); replace go := Aside0.mk (spec_CirclesOf.V_atq hq_ go.out); replace d9 := Aside0.mk (spec_CirclesOf.V_atq hq_ d9.out); replace ea := Aside0.mk (spec_CirclesOf.V_atq hq_ ea.out); replace a8 := Aside0.mk (blk_at hq_ a8.out); replace HB := Aside0.mk (below_at hq_ HB.out); clear hq_; (try (have HX35 := Aside0.mk (show Kd.N (Kd.slice 3 (Kd.int .i64)) 22 wr w.heap.size (fun k_ => (w.heap.size ≤ k_) ∧ k_ ≠ ax) (.slice (some ⟨bq, 0, none⟩) aq.length cd) aq from (uf4_ ap)))); (try (obtain ⟨ce35, hcl35, hM35, hcc35, hfr35⟩ := Kd.N_elem HX35.out [] (bv : Int) (of_decide_eq_true (g0_)) (by have h_ : (bv : Int) < ((aq.length : Int) : Int) := of_decide_eq_true (g0_); first | exact h_ | (have e_ := (Kd.N_reads' ap.out).1; omega) | simpa using h_))); (try (obtain ⟨ua35_0, uc35_0, rfl, ul35_0, ge35_0⟩ := Kd.FK_slice_open hM35)); (try (have HP35 := Kd.N_seg HX35.out (bv : Int) (of_decide_eq_true (g0_)) (by have h_ : (bv : Int) < ((aq.length : Int) : Int) := of_decide_eq_true (g0_); first | exact h_ | (have e_ := (Kd.N_reads' ap.out).1; omega) | simpa using h_) (seg := [.slice sc (rd_L1 aq (ji28)).length sd]) (j := 0) hcl35 hcc35 (show 1 ≤ 1 from by decide) (x' := rd_L1 aq (ji28)) (Kd.FK_slice_mk (Kd.V_reads' (Kd.V_mono (ok' := (fun k_ => ((fun k_ => (w.heap.size ≤ k_) ∧ k_ ≠ ax)) k_ ∧ k_ ≠ bq)) (ea.out) (fun k_ hk => ⟨⟨hk.1.1, hk.1.2⟩, fun e_ => (hk.2) (g7_)⟩))).2.1 (Kd.V_F (Kd.V_mono (ok' := (fun k_ => ((fun k_ => (w.heap.size ≤ k_) ∧ k_ ≠ ax)) k_ ∧ k_ ≠ bq)) (ea.out) (fun k_ hk => ⟨⟨hk.1.1, hk.1.2⟩, fun e_ => (hk.2) (g7_)⟩)))) (fun _ hk => hk))); (try (have qs := hcc35 0 _ rfl)); (try (try simp only [show ((Kd.slice 3 (Kd.int .i64))).sz = 1 from rfl, Nat.mul_one, Nat.add_zero] at qs)); (try (have hf35_0 := hfr35 0)); (try (try simp only [show ((Kd.slice 3 (Kd.int .i64))).sz = 1 from rfl, Nat.mul_one, Nat.add_zero] at hf35_0)); (try (clear hcl35 hcc35 hfr35 hM35)); (try (try simp only [show ((Kd.slice 3 (Kd.int .i64))).sz = 1 from rfl, Nat.mul_one, Nat.add_zero] at HP35)); (try (try simp only [show ((Kd.slice 3 (Kd.int .i64))).sz = 1 from rfl, Nat.mul_one, Nat.add_zero] at HP35)))); refine store_event (t := 22) (p := 60) (v := ?vo_w36) (w1 := (wr.setCell ⟨bq, (bv : Int).toNat, none⟩ (.slice sc (rd_L1 aq (ji28)).length sd))) ?hg ?ho ?hn ?hr ?_; (case ho => rfl); (case hg => rfl); (case hn => rfl); (case hr => first | (go_simp; done) | (go_simp; rfl)); intro ei hw; have hg : wr.grownBy ei (some bq) := (by rw [hw]; exact HP35.2); have hp_ : Kd.N (Kd.slice 3 (Kd.int .i64)) 22 ei w.heap.size (fun k_ => (w.heap.size ≤ k_) ∧ k_ ≠ ax) (.slice (some ⟨bq, 0, none⟩) aq.length cd) qn := (by rw [hw, ca5.out]; exact HP35.1); clear HP35; replace a8 := Aside0.mk (blk_grown (g := ax) (o := .cells #[.slice af ab.length ae, .slice ah aa.length ag] 25 (0, 0)) (uf0_ a8) hg (Kd.N_ne ap.out a8.out (by decide))); replace ap := Aside0.mk (hp_); replace gn := Aside0.mk (Kd.V_afterv (v := (.slice (some ⟨bq, 0, none⟩) aq.length cd)) (v1 := (.slice (some ⟨bq, 0, none⟩) aq.length cd)) (ok := (fun k_ => (w.heap.size ≤ k_) ∧ k_ ≠ ax)) (uf5_ gn) hg (.inl rfl)); replace go := Aside0.mk (Kd.V_afterv (v := (.slice (some ⟨bq, 0, none⟩) aq.length cd)) (v1 := (.slice (some ⟨bq, 0, none⟩) aq.length cd)) (ok := (fun k_ => (w.heap.size ≤ k_) ∧ k_ ≠ ax)) (uf5_ go) hg (.inl rfl)); replace d9 := Aside0.mk (Kd.V_afterv (v := (.slice (some ⟨bq, 0, none⟩) aq.length cd)) (v1 := (.slice (some ⟨bq, 0, none⟩) aq.length cd)) (ok := (fun k_ => (w.heap.size ≤ k_) ∧ k_ ≠ ax)) (uf5_ d9) hg (.inl rfl)); replace ea := Aside0.mk (Kd.V_afterv (v := (.slice (some ⟨bq, 0, none⟩) aq.length cd)) (v1 := (.slice (some ⟨bq, 0, none⟩) aq.length cd)) (ok := (fun k_ => (w.heap.size ≤ k_) ∧ k_ ≠ ax)) (uf5_ ea) hg (.inl rfl)); replace HB := Aside0.mk ((g35_ : Below w.heap.size w ei)); clear hg hw hp_; have qt : 0 ≤ ((ji28) : Int) := of_decide_eq_true (g0_); have qu : ((ji28) : Int) < ((aq.length : Int) : Int) := of_decide_eq_true (g0_); obtain ⟨ce34, hcl34, hM34, hcc34, hfr34⟩ := Kd.N_elem ap.out [] ((ji28) : Int) qt qu; obtain ⟨ua34_0, uc34_0, rfl, ul34_0, ge34_0⟩ := Kd.FK_slice_open hM34; have aq6 := hcc34 0 _ rfl; have hf34_0 := hfr34 0; (try simp only [show ((Kd.slice 3 (Kd.int .i64))).sz = 1 from rfl, Nat.mul_one, Nat.add_zero] at aq6); (try simp only [show ((Kd.slice 3 (Kd.int .i64))).sz = 1 from rfl, Nat.mul_one, Nat.add_zero] at hf34_0); clear hcl34 hcc34 hfr34 hM34; replace qt := eq_true qt; replace qu := eq_true qu; have HX37 := Aside0.mk (show Kd.N (Kd.slice 3 (Kd.int .i64)) 22 ei w.heap.size (fun k_ => (w.heap.size ≤ k_) ∧ k_ ≠ ax) (.slice (some ⟨bq, 0, none⟩) aq.length cd) qn from (uf4_ ap)); obtain ⟨ce37, hcl37, hM37, hcc37, hfr37⟩ := Kd.N_elem HX37.out [] ((ji28) : Int) (of_decide_eq_true (g0_)) (by have h_ : ((ji28) : Int) < ((aq.length : Int) : Int) := of_decide_eq_true (g0_); first | exact h_ | (have e_ := (Kd.N_reads' ap.out).1; omega) | simpa using h_); obtain ⟨ua37_0, uc37_0, rfl, ul37_0, ge37_0⟩ := Kd.FK_slice_open hM37; have HP37 := Kd.N_seg HX37.out ((ji28) : Int) (of_decide_eq_true (g0_)) (by have h_ : ((ji28) : Int) < ((aq.length : Int) : Int) := of_decide_eq_true (g0_); first | exact h_ | (have e_ := (Kd.N_reads' ap.out).1; omega) | simpa using h_) (seg := [.slice sa (rd_L1 aq bv).length sb]) (j := 0) hcl37 hcc37 (show 1 ≤ 1 from by decide) (x' := rd_L1 aq bv) (Kd.FK_slice_mk (Kd.V_reads' (Kd.V_mono (ok' := (fun k_ => ((fun k_ => (w.heap.size ≤ k_) ∧ k_ ≠ ax)) k_ ∧ k_ ≠ bq)) (d9.out) (fun k_ hk => ⟨⟨hk.1.1, hk.1.2⟩, fun e_ => (hk.2) (g7_)⟩))).2.1 (Kd.V_F (Kd.V_mono (ok' := (fun k_ => ((fun k_ => (w.heap.size ≤ k_) ∧ k_ ≠ ax)) k_ ∧ k_ ≠ bq)) (d9.out) (fun k_ hk => ⟨⟨hk.1.1, hk.1.2⟩, fun e_ => (hk.2) (g7_)⟩)))) (fun _ hk => hk); have qv := hcc37 0 _ rfl; (try simp only [show ((Kd.slice 3 (Kd.int .i64))).sz = 1 from rfl, Nat.mul_one, Nat.add_zero] at qv); have hf37_0 := hfr37 0; (try simp only [show ((Kd.slice 3 (Kd.int .i64))).sz = 1 from rfl, Nat.mul_one, Nat.add_zero] at hf37_0); clear hcl37 hcc37 hfr37 hM37; (try simp only [show ((Kd.slice 3 (Kd.int .i64))).sz = 1 from rfl, Nat.mul_one, Nat.add_zero] at HP37); (try simp only [show ((Kd.slice 3 (Kd.int .i64))).sz = 1 from rfl, Nat.mul_one, Nat.add_zero] at HP37)) | ((with_reducible refine gate_store (t := 22) (p := 65) rfl ?_); (try (rw [drewN_self ei]; generalize hq_ : World.drewN ei _ = ei; replace ap := Aside0.mk (Kd.N_at hq_ ap.out); replace gn := Aside0.mk (spec_CirclesOf.V_atq hq_ gn.out); replace go := Aside0.mk (spec_CirclesOf.V_atq hq_ go.out); replace d9 := Aside0.mk (spec_CirclesOf.V_atq hq_ d9.out); replace ea := Aside0.mk (spec_CirclesOf.V_atq hq_ ea.out); replace a8 := Aside0.mk (blk_at hq_ a8.out); replace HB := Aside0.mk (below_at hq_ HB.out); clear hq_; (try (have HX37 := Aside0.mk (show Kd.N (Kd.slice 3 (Kd.int .i64)) 22 ei w.heap.size (fun k_ => (w.heap.size ≤ k_) ∧ k_ ≠ ax) (.slice (some ⟨bq, 0, none⟩) aq.length cd) qn from (uf4_ ap)))); (try (obtain ⟨ce37, hcl37, hM37, hcc37, hfr37⟩ := Kd.N_elem HX37.out [] ((ji28) : Int) (of_decide_eq_true (g0_)) (by have h_ : ((ji28) : Int) < ((aq.length : Int) : Int) := of_decide_eq_true (g0_); first | exact h_ | (have e_ := (Kd.N_reads' ap.out).1; omega) | simpa using h_))); (try (obtain ⟨ua37_0, uc37_0, rfl, ul37_0, ge37_0⟩ := Kd.FK_slice_open hM37)); (try (have HP37 := Kd.N_seg HX37.out ((ji28) : Int) (of_decide_eq_true (g0_)) (by have h_ : ((ji28) : Int) < ((aq.length : Int) : Int) := of_decide_eq_true (g0_); first | exact h_ | (have e_ := (Kd.N_reads' ap.out).1; omega) | simpa using h_) (seg := [.slice sa (rd_L1 aq bv).length sb]) (j := 0) hcl37 hcc37 (show 1 ≤ 1 from by decide) (x' := rd_L1 aq bv) (Kd.FK_slice_mk (Kd.V_reads' (Kd.V_mono (ok' := (fun k_ => ((fun k_ => (w.heap.size ≤ k_) ∧ k_ ≠ ax)) k_ ∧ k_ ≠ bq)) (d9.out) (fun k_ hk => ⟨⟨hk.1.1, hk.1.2⟩, fun e_ => (hk.2) (g7_)⟩))).2.1 (Kd.V_F (Kd.V_mono (ok' := (fun k_ => ((fun k_ => (w.heap.size ≤ k_) ∧ k_ ≠ ax)) k_ ∧ k_ ≠ bq)) (d9.out) (fun k_ hk => ⟨⟨hk.1.1, hk.1.2⟩, fun e_ => (hk.2) (g7_)⟩)))) (fun _ hk => hk))); (try (have qv := hcc37 0 _ rfl)); (try (try simp only [show ((Kd.slice 3 (Kd.int .i64))).sz = 1 from rfl, Nat.mul_one, Nat.add_zero] at qv)); (try (have hf37_0 := hfr37 0)); (try (try simp only [show ((Kd.slice 3 (Kd.int .i64))).sz = 1 from rfl, Nat.mul_one, Nat.add_zero] at hf37_0)); (try (clear hcl37 hcc37 hfr37 hM37)); (try (try simp only [show ((Kd.slice 3 (Kd.int .i64))).sz = 1 from rfl, Nat.mul_one, Nat.add_zero] at HP37)); (try (try simp only [show ((Kd.slice 3 (Kd.int .i64))).sz = 1 from rfl, Nat.mul_one, Nat.add_zero] at HP37)))); refine store_event (t := 22) (p := 65) (v := ?vo_w38) (w1 := (ei.setCell ⟨bq, ((ji28) : Int).toNat, none⟩ (.slice sa (rd_L1 aq bv).length sb))) ?hg ?ho ?hn ?hr ?_; (case ho => rfl); (case hg => rfl); (case hn => rfl); (case hr => first | (go_simp; done) | (go_simp; rfl)); intro qw hw; have hg : ei.grownBy qw (some bq) := (by rw [hw]; exact HP37.2); have hp_ : Kd.N (Kd.slice 3 (Kd.int .i64)) 22 qw w.heap.size (fun k_ => (w.heap.size ≤ k_) ∧ k_ ≠ ax) (.slice (some ⟨bq, 0, none⟩) aq.length cd) ap6 := (by rw [hw, ca6.out]; exact HP37.1); clear HP37; replace a8 := Aside0.mk (blk_grown (g := ax) (o := .cells #[.slice af ab.length ae, .slice ah aa.length ag] 25 (0, 0)) (uf0_ a8) hg (Kd.N_ne ap.out a8.out (by decide))); replace ap := Aside0.mk (hp_); replace gn := Aside0.mk (Kd.V_afterv (v := (.slice (some ⟨bq, 0, none⟩) aq.length cd)) (v1 := (.slice (some ⟨bq, 0, none⟩) aq.length cd)) (ok := (fun k_ => (w.heap.size ≤ k_) ∧ k_ ≠ ax)) (uf5_ gn) hg (.inl rfl)); replace go := Aside0.mk (Kd.V_afterv (v := (.slice (some ⟨bq, 0, none⟩) aq.length cd)) (v1 := (.slice (some ⟨bq, 0, none⟩) aq.length cd)) (ok := (fun k_ => (w.heap.size ≤ k_) ∧ k_ ≠ ax)) (uf5_ go) hg (.inl rfl)); replace d9 := Aside0.mk (Kd.V_afterv (v := (.slice (some ⟨bq, 0, none⟩) aq.length cd)) (v1 := (.slice (some ⟨bq, 0, none⟩) aq.length cd)) (ok := (fun k_ => (w.heap.size ≤ k_) ∧ k_ ≠ ax)) (uf5_ d9) hg (.inl rfl)); replace ea := Aside0.mk (Kd.V_afterv (v := (.slice (some ⟨bq, 0, none⟩) aq.length cd)) (v1 := (.slice (some ⟨bq, 0, none⟩) aq.length cd)) (ok := (fun k_ => (w.heap.size ≤ k_) ∧ k_ ≠ ax)) (uf5_ ea) hg (.inl rfl)); replace HB := Aside0.mk ((g35_ : Below w.heap.size w qw)); clear hg hw hp_)); try go_wp2_with (first | (go_at_call 114; (with_reducible refine (spec_l3Before.calls k3 _ _ (rd_L1 aq bv) _ _ (rd_L1 aq (ji28)) true _ ?side1 ?side2 ?side3 ?side4 wi.out).mono ?_); (case side1 => repeat (first | exact (g33_) | (with_reducible refine Kd.C_alloc ?_ _) | (with_reducible refine Kd.C_drewN ?_ _) | (with_reducible refine Kd.C_drew ?_))); (case side2 => exact aa2.out); (case side3 => repeat (first | exact (g34_) | (with_reducible refine Kd.C_alloc ?_ _) | (with_reducible refine Kd.C_drewN ?_ _) | (with_reducible refine Kd.C_drew ?_))); (case side4 => exact aa3.out); rintro e w' ⟨rfl, ⟨nd, rfl⟩⟩; (try first | exact ⟨rfl, _, World.drewN_drewN _ _ _⟩ | exact ⟨rfl, _, Eq.trans (World.drewN_drewN _ _ _) (congrArg (World.drewN _) (Nat.add_assoc _ _ _))⟩); have nk : 0 ≤ (bv : Int) := of_decide_eq_true (g0_); have ph : bv < (aq.length : Int) := of_decide_eq_true (g0_); obtain ⟨aq1, da3, da4, aq2, qo, wj, wk⟩ := at_L1 (Kd.N_reads' ap.out).2.2 bv nk ph; obtain rfl : t9 = aq1 := (by injection aq2); obtain ⟨ce304, hce304, hMe304, hcc304⟩ := Kd.N_get ap.out [] bv nk (g80_); obtain ⟨ua304_0, uc304_0, rfl, ul304_0, ge304_0⟩ := Kd.FK_slice_open hMe304; have hv304_0 := hcc304 0 _ rfl; rw [Nat.add_zero, show ((Kd.slice 3 (Kd.int .i64))).sz = 1 from rfl, Nat.mul_one] at hv304_0; replace hv304_0 := Option.some.inj (hv304_0.symm.trans qo); injection hv304_0 with hva_ hvn_ hvc_; rw [hva_] at ge304_0; rw [hvc_] at ul304_0; have d9 := Aside0.mk (show Kd.V (Kd.int .i64) 3 _ w.heap.size _ _ (rd_L1 aq bv) from Kd.V_mk ul304_0 ge304_0); clear hva_ hvn_ hvc_ ge304_0 ul304_0; clear hcc304 hce304; have da5 := Aside0.mk wk; have da6 := Aside0.mk wj; clear wk wj; replace nk := eq_true nk; replace ph := eq_true ph; have ea_ := Option.some.inj (ua.symm.trans qo); injection ea_ with ea_ en_ ec_; subst ea_; subst ec_; clear en_; have nl : 0 ≤ ((ji28) : Int) := of_decide_eq_true (g0_); have pi : (ji28) < (aq.length : Int) := of_decide_eq_true (g0_); obtain ⟨aq3, da7, da8, aq4, qp, wl, wm⟩ := at_L1 (Kd.N_reads' ap.out).2.2 (ji28) nl pi; obtain rfl : t9 = aq3 := (by injection aq4); obtain ⟨ce305, hce305, hMe305, hcc305⟩ := Kd.N_get ap.out [] (ji28) nl (g81_); obtain ⟨ua305_0, uc305_0, rfl, ul305_0, ge305_0⟩ := Kd.FK_slice_open hMe305; have hv305_0 := hcc305 0 _ rfl; rw [Nat.add_zero, show ((Kd.slice 3 (Kd.int .i64))).sz = 1 from rfl, Nat.mul_one] at hv305_0; replace hv305_0 := Option.some.inj (hv305_0.symm.trans qp); injection hv305_0 with hva_ hvn_ hvc_; rw [hva_] at ge305_0; rw [hvc_] at ul305_0; have ea := Aside0.mk (show Kd.V (Kd.int .i64) 3 _ w.heap.size _ _ (rd_L1 aq (ji28)) from Kd.V_mk ul305_0 ge305_0); clear hva_ hvn_ hvc_ ge305_0 ul305_0; clear hcc305 hce305; have da9 := Aside0.mk wm; have db0 := Aside0.mk wl; clear wm wl; replace nl := eq_true nl; replace pi := eq_true pi; have ea_ := Option.some.inj (ud.symm.trans qp); injection ea_ with ea_ en_ ec_; subst ea_; subst ec_; clear en_; have qq : 0 ≤ (bv : Int) := of_decide_eq_true (g0_); have qr : (bv : Int) < ((aq.length : Int) : Int) := of_decide_eq_true (g0_); obtain ⟨bq, db1, wn, wo, gl33, cl33, HG33⟩ := Kd.N_form ap.out (by omega); (first | cases wn | (injection wn with ea_ en_ ec_; (first | subst ea_ | (injection ea_ with ea_; subst ea_)); subst ec_; clear en_)); have GB33 := Aside0.mk wo; have GG33 := Aside0.mk HG33; clear wo gl33 HG33; (first | simp only [add_plain] at ua | skip); (first | simp only [add_plain] at ud | skip); (first | simp only [add_plain] at qo | skip); (first | simp only [add_plain] at qp | skip); obtain ⟨ce33, hcl33, hM33, hcc33, hfr33⟩ := Kd.N_elem ap.out [] (bv : Int) qq qr; obtain ⟨ua33_0, uc33_0, rfl, ul33_0, ge33_0⟩ := Kd.FK_slice_open hM33; have aq5 := hcc33 0 _ rfl; have hf33_0 := hfr33 0; (try simp only [show ((Kd.slice 3 (Kd.int .i64))).sz = 1 from rfl, Nat.mul_one, Nat.add_zero] at aq5); (try simp only [show ((Kd.slice 3 (Kd.int .i64))).sz = 1 from rfl, Nat.mul_one, Nat.add_zero] at hf33_0); clear hcl33 hcc33 hfr33 hM33; replace qq := eq_true qq; replace qr := eq_true qr; have HX35 := Aside0.mk (show Kd.N (Kd.slice 3 (Kd.int .i64)) 22 wr w.heap.size (fun k_ => (w.heap.size ≤ k_) ∧ k_ ≠ ax) (.slice (some ⟨bq, 0, none⟩) aq.length cd) aq from (uf4_ ap)); obtain ⟨ce35, hcl35, hM35, hcc35, hfr35⟩ := Kd.N_elem HX35.out [] (bv : Int) (of_decide_eq_true (g0_)) (by have h_ : (bv : Int) < ((aq.length : Int) : Int) := of_decide_eq_true (g0_); first | exact h_ | (have e_ := (Kd.N_reads' ap.out).1; omega) | simpa using h_); obtain ⟨ua35_0, uc35_0, rfl, ul35_0, ge35_0⟩ := Kd.FK_slice_open hM35; have HP35 := Kd.N_seg HX35.out (bv : Int) (of_decide_eq_true (g0_)) (by have h_ : (bv : Int) < ((aq.length : Int) : Int) := of_decide_eq_true (g0_); first | exact h_ | (have e_ := (Kd.N_reads' ap.out).1; omega) | simpa using h_) (seg := [.slice sc (rd_L1 aq (ji28)).length sd]) (j := 0) hcl35 hcc35 (show 1 ≤ 1 from by decide) (x' := rd_L1 aq (ji28)) (Kd.FK_slice_mk (Kd.V_reads' (Kd.V_mono (ok' := (fun k_ => ((fun k_ => (w.heap.size ≤ k_) ∧ k_ ≠ ax)) k_ ∧ k_ ≠ bq)) (ea.out) (fun k_ hk => ⟨⟨hk.1.1, hk.1.2⟩, fun e_ => (hk.2) (g7_)⟩))).2.1 (Kd.V_F (Kd.V_mono (ok' := (fun k_ => ((fun k_ => (w.heap.size ≤ k_) ∧ k_ ≠ ax)) k_ ∧ k_ ≠ bq)) (ea.out) (fun k_ hk => ⟨⟨hk.1.1, hk.1.2⟩, fun e_ => (hk.2) (g7_)⟩)))) (fun _ hk => hk); have qs := hcc35 0 _ rfl; (try simp only [show ((Kd.slice 3 (Kd.int .i64))).sz = 1 from rfl, Nat.mul_one, Nat.add_zero] at qs); have hf35_0 := hfr35 0; (try simp only [show ((Kd.slice 3 (Kd.int .i64))).sz = 1 from rfl, Nat.mul_one, Nat.add_zero] at hf35_0); clear hcl35 hcc35 hfr35 hM35; (try simp only [show ((Kd.slice 3 (Kd.int .i64))).sz = 1 from rfl, Nat.mul_one, Nat.add_zero] at HP35); (try simp only [show ((Kd.slice 3 (Kd.int .i64))).sz = 1 from rfl, Nat.mul_one, Nat.add_zero] at HP35)) | ((with_reducible refine gate_store (t := 22) (p := 60) rfl ?_); (try (rw [drewN_self wr]; generalize hq_ : World.drewN wr _ = wr; replace ap := Aside0.mk (Kd.N_at hq_ ap.out); replace gn := Aside0.mk (spec_CirclesOf.V_atq hq_ gn.out); replace go := Aside0.mk (spec_CirclesOf.V_atq hq_ go.out); replace d9 := Aside0.mk (spec_CirclesOf.V_atq hq_ d9.out); replace ea := Aside0.mk (spec_CirclesOf.V_atq hq_ ea.out); replace a8 := Aside0.mk (blk_at hq_ a8.out); replace HB := Aside0.mk (below_at hq_ HB.out); clear hq_; (try (have HX35 := Aside0.mk (show Kd.N (Kd.slice 3 (Kd.int .i64)) 22 wr w.heap.size (fun k_ => (w.heap.size ≤ k_) ∧ k_ ≠ ax) (.slice (some ⟨bq, 0, none⟩) aq.length cd) aq from (uf4_ ap)))); (try (obtain ⟨ce35, hcl35, hM35, hcc35, hfr35⟩ := Kd.N_elem HX35.out [] (bv : Int) (of_decide_eq_true (g0_)) (by have h_ : (bv : Int) < ((aq.length : Int) : Int) := of_decide_eq_true (g0_); first | exact h_ | (have e_ := (Kd.N_reads' ap.out).1; omega) | simpa using h_))); (try (obtain ⟨ua35_0, uc35_0, rfl, ul35_0, ge35_0⟩ := Kd.FK_slice_open hM35)); (try (have HP35 := Kd.N_seg HX35.out (bv : Int) (of_decide_eq_true (g0_)) (by have h_ : (bv : Int) < ((aq.length : Int) : Int) := of_decide_eq_true (g0_); first | exact h_ | (have e_ := (Kd.N_reads' ap.out).1; omega) | simpa using h_) (seg := [.slice sc (rd_L1 aq (ji28)).length sd]) (j := 0) hcl35 hcc35 (show 1 ≤ 1 from by decide) (x' := rd_L1 aq (ji28)) (Kd.FK_slice_mk (Kd.V_reads' (Kd.V_mono (ok' := (fun k_ => ((fun k_ => (w.heap.size ≤ k_) ∧ k_ ≠ ax)) k_ ∧ k_ ≠ bq)) (ea.out) (fun k_ hk => ⟨⟨hk.1.1, hk.1.2⟩, fun e_ => (hk.2) (g7_)⟩))).2.1 (Kd.V_F (Kd.V_mono (ok' := (fun k_ => ((fun k_ => (w.heap.size ≤ k_) ∧ k_ ≠ ax)) k_ ∧ k_ ≠ bq)) (ea.out) (fun k_ hk => ⟨⟨hk.1.1, hk.1.2⟩, fun e_ => (hk.2) (g7_)⟩)))) (fun _ hk => hk))); (try (have qs := hcc35 0 _ rfl)); (try (try simp only [show ((Kd.slice 3 (Kd.int .i64))).sz = 1 from rfl, Nat.mul_one, Nat.add_zero] at qs)); (try (have hf35_0 := hfr35 0)); (try (try simp only [show ((Kd.slice 3 (Kd.int .i64))).sz = 1 from rfl, Nat.mul_one, Nat.add_zero] at hf35_0)); (try (clear hcl35 hcc35 hfr35 hM35)); (try (try simp only [show ((Kd.slice 3 (Kd.int .i64))).sz = 1 from rfl, Nat.mul_one, Nat.add_zero] at HP35)); (try (try simp only [show ((Kd.slice 3 (Kd.int .i64))).sz = 1 from rfl, Nat.mul_one, Nat.add_zero] at HP35)))); refine store_event (t := 22) (p := 60) (v := ?vo_w36) (w1 := (wr.setCell ⟨bq, (bv : Int).toNat, none⟩ (.slice sc (rd_L1 aq (ji28)).length sd))) ?hg ?ho ?hn ?hr ?_; (case ho => rfl); (case hg => rfl); (case hn => rfl); (case hr => first | (go_simp; done) | (go_simp; rfl)); intro ei hw; have hg : wr.grownBy ei (some bq) := (by rw [hw]; exact HP35.2); have hp_ : Kd.N (Kd.slice 3 (Kd.int .i64)) 22 ei w.heap.size (fun k_ => (w.heap.size ≤ k_) ∧ k_ ≠ ax) (.slice (some ⟨bq, 0, none⟩) aq.length cd) qn := (by rw [hw, ca5.out]; exact HP35.1); clear HP35; replace a8 := Aside0.mk (blk_grown (g := ax) (o := .cells #[.slice af ab.length ae, .slice ah aa.length ag] 25 (0, 0)) (uf0_ a8) hg (Kd.N_ne ap.out a8.out (by decide))); replace ap := Aside0.mk (hp_); replace gn := Aside0.mk (Kd.V_afterv (v := (.slice (some ⟨bq, 0, none⟩) aq.length cd)) (v1 := (.slice (some ⟨bq, 0, none⟩) aq.length cd)) (ok := (fun k_ => (w.heap.size ≤ k_) ∧ k_ ≠ ax)) (uf5_ gn) hg (.inl rfl)); replace go := Aside0.mk (Kd.V_afterv (v := (.slice (some ⟨bq, 0, none⟩) aq.length cd)) (v1 := (.slice (some ⟨bq, 0, none⟩) aq.length cd)) (ok := (fun k_ => (w.heap.size ≤ k_) ∧ k_ ≠ ax)) (uf5_ go) hg (.inl rfl)); replace d9 := Aside0.mk (Kd.V_afterv (v := (.slice (some ⟨bq, 0, none⟩) aq.length cd)) (v1 := (.slice (some ⟨bq, 0, none⟩) aq.length cd)) (ok := (fun k_ => (w.heap.size ≤ k_) ∧ k_ ≠ ax)) (uf5_ d9) hg (.inl rfl)); replace ea := Aside0.mk (Kd.V_afterv (v := (.slice (some ⟨bq, 0, none⟩) aq.length cd)) (v1 := (.slice (some ⟨bq, 0, none⟩) aq.length cd)) (ok := (fun k_ => (w.heap.size ≤ k_) ∧ k_ ≠ ax)) (uf5_ ea) hg (.inl rfl)); replace HB := Aside0.mk ((g35_ : Below w.heap.size w ei)); clear hg hw hp_; have qt : 0 ≤ ((ji28) : Int) := of_decide_eq_true (g0_); have qu : ((ji28) : Int) < ((aq.length : Int) : Int) := of_decide_eq_true (g0_); obtain ⟨ce34, hcl34, hM34, hcc34, hfr34⟩ := Kd.N_elem ap.out [] ((ji28) : Int) qt qu; obtain ⟨ua34_0, uc34_0, rfl, ul34_0, ge34_0⟩ := Kd.FK_slice_open hM34; have aq6 := hcc34 0 _ rfl; have hf34_0 := hfr34 0; (try simp only [show ((Kd.slice 3 (Kd.int .i64))).sz = 1 from rfl, Nat.mul_one, Nat.add_zero] at aq6); (try simp only [show ((Kd.slice 3 (Kd.int .i64))).sz = 1 from rfl, Nat.mul_one, Nat.add_zero] at hf34_0); clear hcl34 hcc34 hfr34 hM34; replace qt := eq_true qt; replace qu := eq_true qu; have HX37 := Aside0.mk (show Kd.N (Kd.slice 3 (Kd.int .i64)) 22 ei w.heap.size (fun k_ => (w.heap.size ≤ k_) ∧ k_ ≠ ax) (.slice (some ⟨bq, 0, none⟩) aq.length cd) qn from (uf4_ ap)); obtain ⟨ce37, hcl37, hM37, hcc37, hfr37⟩ := Kd.N_elem HX37.out [] ((ji28) : Int) (of_decide_eq_true (g0_)) (by have h_ : ((ji28) : Int) < ((aq.length : Int) : Int) := of_decide_eq_true (g0_); first | exact h_ | (have e_ := (Kd.N_reads' ap.out).1; omega) | simpa using h_); obtain ⟨ua37_0, uc37_0, rfl, ul37_0, ge37_0⟩ := Kd.FK_slice_open hM37; have HP37 := Kd.N_seg HX37.out ((ji28) : Int) (of_decide_eq_true (g0_)) (by have h_ : ((ji28) : Int) < ((aq.length : Int) : Int) := of_decide_eq_true (g0_); first | exact h_ | (have e_ := (Kd.N_reads' ap.out).1; omega) | simpa using h_) (seg := [.slice sa (rd_L1 aq bv).length sb]) (j := 0) hcl37 hcc37 (show 1 ≤ 1 from by decide) (x' := rd_L1 aq bv) (Kd.FK_slice_mk (Kd.V_reads' (Kd.V_mono (ok' := (fun k_ => ((fun k_ => (w.heap.size ≤ k_) ∧ k_ ≠ ax)) k_ ∧ k_ ≠ bq)) (d9.out) (fun k_ hk => ⟨⟨hk.1.1, hk.1.2⟩, fun e_ => (hk.2) (g7_)⟩))).2.1 (Kd.V_F (Kd.V_mono (ok' := (fun k_ => ((fun k_ => (w.heap.size ≤ k_) ∧ k_ ≠ ax)) k_ ∧ k_ ≠ bq)) (d9.out) (fun k_ hk => ⟨⟨hk.1.1, hk.1.2⟩, fun e_ => (hk.2) (g7_)⟩)))) (fun _ hk => hk); have qv := hcc37 0 _ rfl; (try simp only [show ((Kd.slice 3 (Kd.int .i64))).sz = 1 from rfl, Nat.mul_one, Nat.add_zero] at qv); have hf37_0 := hfr37 0; (try simp only [show ((Kd.slice 3 (Kd.int .i64))).sz = 1 from rfl, Nat.mul_one, Nat.add_zero] at hf37_0); clear hcl37 hcc37 hfr37 hM37; (try simp only [show ((Kd.slice 3 (Kd.int .i64))).sz = 1 from rfl, Nat.mul_one, Nat.add_zero] at HP37); (try simp only [show ((Kd.slice 3 (Kd.int .i64))).sz = 1 from rfl, Nat.mul_one, Nat.add_zero] at HP37)) | ((with_reducible refine gate_store (t := 22) (p := 65) rfl ?_); (try (rw [drewN_self ei]; generalize hq_ : World.drewN ei _ = ei; replace ap := Aside0.mk (Kd.N_at hq_ ap.out); replace gn := Aside0.mk (spec_CirclesOf.V_atq hq_ gn.out); replace go := Aside0.mk (spec_CirclesOf.V_atq hq_ go.out); replace d9 := Aside0.mk (spec_CirclesOf.V_atq hq_ d9.out); replace ea := Aside0.mk (spec_CirclesOf.V_atq hq_ ea.out); replace a8 := Aside0.mk (blk_at hq_ a8.out); replace HB := Aside0.mk (below_at hq_ HB.out); clear hq_; (try (have HX37 := Aside0.mk (show Kd.N (Kd.slice 3 (Kd.int .i64)) 22 ei w.heap.size (fun k_ => (w.heap.size ≤ k_) ∧ k_ ≠ ax) (.slice (some ⟨bq, 0, none⟩) aq.length cd) qn from (uf4_ ap)))); (try (obtain ⟨ce37, hcl37, hM37, hcc37, hfr37⟩ := Kd.N_elem HX37.out [] ((ji28) : Int) (of_decide_eq_true (g0_)) (by have h_ : ((ji28) : Int) < ((aq.length : Int) : Int) := of_decide_eq_true (g0_); first | exact h_ | (have e_ := (Kd.N_reads' ap.out).1; omega) | simpa using h_))); (try (obtain ⟨ua37_0, uc37_0, rfl, ul37_0, ge37_0⟩ := Kd.FK_slice_open hM37)); (try (have HP37 := Kd.N_seg HX37.out ((ji28) : Int) (of_decide_eq_true (g0_)) (by have h_ : ((ji28) : Int) < ((aq.length : Int) : Int) := of_decide_eq_true (g0_); first | exact h_ | (have e_ := (Kd.N_reads' ap.out).1; omega) | simpa using h_) (seg := [.slice sa (rd_L1 aq bv).length sb]) (j := 0) hcl37 hcc37 (show 1 ≤ 1 from by decide) (x' := rd_L1 aq bv) (Kd.FK_slice_mk (Kd.V_reads' (Kd.V_mono (ok' := (fun k_ => ((fun k_ => (w.heap.size ≤ k_) ∧ k_ ≠ ax)) k_ ∧ k_ ≠ bq)) (d9.out) (fun k_ hk => ⟨⟨hk.1.1, hk.1.2⟩, fun e_ => (hk.2) (g7_)⟩))).2.1 (Kd.V_F (Kd.V_mono (ok' := (fun k_ => ((fun k_ => (w.heap.size ≤ k_) ∧ k_ ≠ ax)) k_ ∧ k_ ≠ bq)) (d9.out) (fun k_ hk => ⟨⟨hk.1.1, hk.1.2⟩, fun e_ => (hk.2) (g7_)⟩)))) (fun _ hk => hk))); (try (have qv := hcc37 0 _ rfl)); (try (try simp only [show ((Kd.slice 3 (Kd.int .i64))).sz = 1 from rfl, Nat.mul_one, Nat.add_zero] at qv)); (try (have hf37_0 := hfr37 0)); (try (try simp only [show ((Kd.slice 3 (Kd.int .i64))).sz = 1 from rfl, Nat.mul_one, Nat.add_zero] at hf37_0)); (try (clear hcl37 hcc37 hfr37 hM37)); (try (try simp only [show ((Kd.slice 3 (Kd.int .i64))).sz = 1 from rfl, Nat.mul_one, Nat.add_zero] at HP37)); (try (try simp only [show ((Kd.slice 3 (Kd.int .i64))).sz = 1 from rfl, Nat.mul_one, Nat.add_zero] at HP37)))); refine store_event (t := 22) (p := 65) (v := ?vo_w38) (w1 := (ei.setCell ⟨bq, ((ji28) : Int).toNat, none⟩ (.slice sa (rd_L1 aq bv).length sb))) ?hg ?ho ?hn ?hr ?_; (case ho => rfl); (case hg => rfl); (case hn => rfl); (case hr => first | (go_simp; done) | (go_simp; rfl)); intro qw hw; have hg : ei.grownBy qw (some bq) := (by rw [hw]; exact HP37.2); have hp_ : Kd.N (Kd.slice 3 (Kd.int .i64)) 22 qw w.heap.size (fun k_ => (w.heap.size ≤ k_) ∧ k_ ≠ ax) (.slice (some ⟨bq, 0, none⟩) aq.length cd) ap6 := (by rw [hw, ca6.out]; exact HP37.1); clear HP37; replace a8 := Aside0.mk (blk_grown (g := ax) (o := .cells #[.slice af ab.length ae, .slice ah aa.length ag] 25 (0, 0)) (uf0_ a8) hg (Kd.N_ne ap.out a8.out (by decide))); replace ap := Aside0.mk (hp_); replace gn := Aside0.mk (Kd.V_afterv (v := (.slice (some ⟨bq, 0, none⟩) aq.length cd)) (v1 := (.slice (some ⟨bq, 0, none⟩) aq.length cd)) (ok := (fun k_ => (w.heap.size ≤ k_) ∧ k_ ≠ ax)) (uf5_ gn) hg (.inl rfl)); replace go := Aside0.mk (Kd.V_afterv (v := (.slice (some ⟨bq, 0, none⟩) aq.length cd)) (v1 := (.slice (some ⟨bq, 0, none⟩) aq.length cd)) (ok := (fun k_ => (w.heap.size ≤ k_) ∧ k_ ≠ ax)) (uf5_ go) hg (.inl rfl)); replace d9 := Aside0.mk (Kd.V_afterv (v := (.slice (some ⟨bq, 0, none⟩) aq.length cd)) (v1 := (.slice (some ⟨bq, 0, none⟩) aq.length cd)) (ok := (fun k_ => (w.heap.size ≤ k_) ∧ k_ ≠ ax)) (uf5_ d9) hg (.inl rfl)); replace ea := Aside0.mk (Kd.V_afterv (v := (.slice (some ⟨bq, 0, none⟩) aq.length cd)) (v1 := (.slice (some ⟨bq, 0, none⟩) aq.length cd)) (ok := (fun k_ => (w.heap.size ≤ k_) ∧ k_ ≠ ax)) (uf5_ ea) hg (.inl rfl)); replace HB := Aside0.mk ((g35_ : Below w.heap.size w qw)); clear hg hw hp_)))
          (try simp only [← wh])
          go_roundg k3
          case measure => have := HJ1.out; have := HK2.out; have := HK3.out; omega
          case rel => exact ⟨(ap6), (ji28), (by first | rfl | (simp; done) | (simp only [← hji28] <;> (first | rfl | simp)) | (simp [*]; done)), H', ⟨g82_⟩, ⟨g83_⟩, ⟨g84_⟩, ⟨de⟩⟩
         ·replace ni := Bool.eq_false_iff.mpr ni
          subst ni
          replace H := ifn_ H
          have H' := Aside0.mk H
          clear H
          have t7 : 0 ≤ (bv : Int) := of_decide_eq_true (g0_)
          have t8 : bv < (aq.length : Int) := of_decide_eq_true (g0_)
          obtain ⟨t9, sa, sb, ca7, ua, ap7, ap8⟩ := at_L1 (Kd.N_reads' ap.out).2.2 bv t7 t8
          cases ca7
          obtain ⟨ce301, hce301, hMe301, hcc301⟩ := Kd.N_get ap.out [] bv t7 (by first | exact t8 | exact of_decide_eq_true (g0_) | (have e_ := (Kd.N_reads' ap.out).1; omega))
          obtain ⟨ua301_0, uc301_0, rfl, ul301_0, ge301_0⟩ := Kd.FK_slice_open hMe301
          have hv301_0 := hcc301 0 _ rfl
          rw [Nat.add_zero, show ((Kd.slice 3 (Kd.int .i64))).sz = 1 from rfl, Nat.mul_one] at hv301_0
          replace hv301_0 := Option.some.inj (hv301_0.symm.trans ua)
          injection hv301_0 with hva_ hvn_ hvc_
          rw [hva_] at ge301_0
          rw [hvc_] at ul301_0
          have gn := Aside0.mk (show Kd.V (Kd.int .i64) 3 _ w.heap.size _ _ (rd_L1 aq bv) from Kd.V_mk ul301_0 ge301_0)
          clear hva_ hvn_ hvc_ ge301_0 ul301_0
          clear hcc301 hce301
          have ca8 := Aside0.mk ap8
          have aa2 := Aside0.mk ap7
          clear ap8 ap7
          replace t7 := eq_true t7
          replace t8 := eq_true t8
          have ub : 0 ≤ ((ji28) : Int) := of_decide_eq_true (g0_)
          have uc : (ji28) < (aq.length : Int) := of_decide_eq_true (g0_)
          obtain ⟨ca9, sc, sd, cb0, ud, ap9, aq0⟩ := at_L1 (Kd.N_reads' ap.out).2.2 (ji28) ub uc
          obtain rfl : t9 = ca9 := (by injection cb0)
          obtain ⟨ce302, hce302, hMe302, hcc302⟩ := Kd.N_get ap.out [] (ji28) ub (by first | exact uc | exact of_decide_eq_true (g0_) | (have e_ := (Kd.N_reads' ap.out).1; omega))
          obtain ⟨ua302_0, uc302_0, rfl, ul302_0, ge302_0⟩ := Kd.FK_slice_open hMe302
          have hv302_0 := hcc302 0 _ rfl
          rw [Nat.add_zero, show ((Kd.slice 3 (Kd.int .i64))).sz = 1 from rfl, Nat.mul_one] at hv302_0
          replace hv302_0 := Option.some.inj (hv302_0.symm.trans ud)
          injection hv302_0 with hva_ hvn_ hvc_
          rw [hva_] at ge302_0
          rw [hvc_] at ul302_0
          have go := Aside0.mk (show Kd.V (Kd.int .i64) 3 _ w.heap.size _ _ (rd_L1 aq (ji28)) from Kd.V_mk ul302_0 ge302_0)
          clear hva_ hvn_ hvc_ ge302_0 ul302_0
          clear hcc302 hce302
          have cb1 := Aside0.mk aq0
          have aa3 := Aside0.mk ap9
          clear aq0 ap9
          replace ub := eq_true ub
          replace uc := eq_true uc
          go_wp2_with (first | (go_at_call 114; (with_reducible refine (spec_l3Before.calls k3 _ _ (rd_L1 aq bv) _ _ (rd_L1 aq (ji28)) false _ ?side1 ?side2 ?side3 ?side4 wi.out).mono ?_); (case side1 => repeat (first | exact (g33_) | (with_reducible refine Kd.C_alloc ?_ _) | (with_reducible refine Kd.C_drewN ?_ _) | (with_reducible refine Kd.C_drew ?_))); (case side2 => exact aa2.out); (case side3 => repeat (first | exact (g34_) | (with_reducible refine Kd.C_alloc ?_ _) | (with_reducible refine Kd.C_drewN ?_ _) | (with_reducible refine Kd.C_drew ?_))); (case side4 => exact aa3.out); rintro e w' ⟨rfl, ⟨nd, rfl⟩⟩; (try first | exact ⟨rfl, _, World.drewN_drewN _ _ _⟩ | exact ⟨rfl, _, Eq.trans (World.drewN_drewN _ _ _) (congrArg (World.drewN _) (Nat.add_assoc _ _ _))⟩)))
          repeat (go_quiet (first | (go_at_call 114; (with_reducible refine (spec_l3Before.calls k3 _ _ (rd_L1 aq bv) _ _ (rd_L1 aq (ji28)) false _ ?side1 ?side2 ?side3 ?side4 wi.out).mono ?_); (case side1 => repeat (first | exact (g33_) | (with_reducible refine Kd.C_alloc ?_ _) | (with_reducible refine Kd.C_drewN ?_ _) | (with_reducible refine Kd.C_drew ?_))); (case side2 => exact aa2.out); (case side3 => repeat (first | exact (g34_) | (with_reducible refine Kd.C_alloc ?_ _) | (with_reducible refine Kd.C_drewN ?_ _) | (with_reducible refine Kd.C_drew ?_))); (case side4 => exact aa3.out); rintro e w' ⟨rfl, ⟨nd, rfl⟩⟩; (try first | exact ⟨rfl, _, World.drewN_drewN _ _ _⟩ | exact ⟨rfl, _, Eq.trans (World.drewN_drewN _ _ _) (congrArg (World.drewN _) (Nat.add_assoc _ _ _))⟩))); try go_wp2_with (first | (go_at_call 114; (with_reducible refine (spec_l3Before.calls k3 _ _ (rd_L1 aq bv) _ _ (rd_L1 aq (ji28)) false _ ?side1 ?side2 ?side3 ?side4 wi.out).mono ?_); (case side1 => repeat (first | exact (g33_) | (with_reducible refine Kd.C_alloc ?_ _) | (with_reducible refine Kd.C_drewN ?_ _) | (with_reducible refine Kd.C_drew ?_))); (case side2 => exact aa2.out); (case side3 => repeat (first | exact (g34_) | (with_reducible refine Kd.C_alloc ?_ _) | (with_reducible refine Kd.C_drewN ?_ _) | (with_reducible refine Kd.C_drew ?_))); (case side4 => exact aa3.out); rintro e w' ⟨rfl, ⟨nd, rfl⟩⟩; (try first | exact ⟨rfl, _, World.drewN_drewN _ _ _⟩ | exact ⟨rfl, _, Eq.trans (World.drewN_drewN _ _ _) (congrArg (World.drewN _) (Nat.add_assoc _ _ _))⟩))))
          (try simp only [← wh])
          go_roundg k3
          case measure => have := HJ1.out; have := HK2.out; have := HK3.out; omega
          case rel => exact ⟨(aq), (wrap64 (pg + 1)), (g2_), H', ⟨g82_⟩, ⟨g83_⟩, ⟨g84_⟩, ⟨de⟩⟩
        ·rw [if_neg jn] at H
         have ad1 := decide_eq_false jn
         clear jn
         have H' := Aside0.mk H
         clear H
         go_wp2
         repeat (go_quiet (fail); try go_wp2)
         (try simp only [← wh])
         go_roundg k3
         case measure => have := HJ1.out; have := HK2.out; have := HK3.out; omega
         case rel => exact ⟨(aq), (wrap64 (pg + 1)), (g2_), H', ⟨g82_⟩, ⟨g83_⟩, ⟨g84_⟩, ⟨de⟩⟩
     ·rw [if_neg ff] at H
      have zc := decide_eq_false ff
      clear ff
      obtain rfl := Option.some.inj H
      obtain ⟨bg7, ag3, se⟩ := Kd.N_slice ap.out
      subst se
      go_wp2
      repeat (go_quiet (fail); try go_wp2)
      go_ret
      exact ⟨_, g4_, by (with_reducible repeat (first | apply Kd.N_alloc | apply Kd.N_drewN | apply Kd.N_drew)); exact Kd.N_mono ap.out (fun _ hk => hk.1), de⟩
def spec_l2Copy.l0 : Nat → Int → List Int → List (List Int) → List Int → List (List Int) → Option (List Int × (List (List Int)))
 | 0, _, _, _, _, _ => none
 | k + 1, x4, es3, bj7, df2, cf4 => if x4 < (bj7.length : Int) then ((some (([] : List Int) : List Int)).bind fun ab1 => (if 0 ≤ x4 then (if ab1.length + (rd_L1 bj7 x4).length < 17592186044416 then (if cf4.length < 5864062014805 then (spec_l2Copy.l0 k (wrap64 (x4 + 1)) es3 bj7 df2 (cf4 ++ [(ab1 ++ (rd_L1 bj7 x4))])) else (none)) else (none)) else (none))) else (some (df2, cf4))
def spec_l2Copy.f (k : Nat) (ab : List Int) (aa : List (List Int)) : Option (List Int × (List (List Int))) := (some (([] : List Int) : List Int)).bind fun sj => (if sj.length + ab.length < 17592186044416 then (spec_l2Copy.l0 k 0 ab aa (sj ++ ab) ([] : List (List Int))) else (none))
theorem spec_l2Copy.mq {p : Prop} (h : p := by
 repeat' first
 | (with_reducible exact ih0 _ _ _ _ _)
 | (with_reducible exact LeO.refl _)
 | (with_reducible exact LeO.none _)
 | (with_reducible refine LeO.ite ?_ ?_)
 | (with_reducible refine LeO.bind ?_ (fun _ => ?_))
 | exact ih0 _ _ _ _ _
 | exact LeO.none _
 | refine LeO.ite ?_ ?_
 | refine LeO.bind ?_ (fun _ => ?_)) : p := h
theorem spec_l2Copy.mono_l : ∀ k, (∀ y0 y1 y2 y3 y4, LeO (spec_l2Copy.l0 k y0 y1 y2 y3 y4) (spec_l2Copy.l0 (k + 1) y0 y1 y2 y3 y4))
 | 0 => fun _ _ _ _ _ r h => by simp [spec_l2Copy.l0] at h
 | k + 1 => by
  have ih0 := spec_l2Copy.mono_l k
  ·intro y0 y1 y2 y3 y4
   unfold spec_l2Copy.l0
   exact spec_l2Copy.mq
theorem spec_l2Copy.mono : ∀ a0 a1 k, LeO (spec_l2Copy.f k a0 a1) (spec_l2Copy.f (k + 1) a0 a1) := by
 intro a0 a1 k
 have ih0 := spec_l2Copy.mono_l k
 unfold spec_l2Copy.f
 exact spec_l2Copy.mq
def spec_l2Copy.T5 : Bool × List (List Nat × List Nat) := (true, [([], []), ([0], [0]), ([], []), ([], []), ([3], [3]), ([], []), ([4, 5], [4, 5]), ([6], [6]), ([2, 7], [2, 7]), ([8], [8]), ([1, 9, 8], [1, 9]), ([0, 1, 2, 3, 4, 5, 6, 7, 8, 9, 10], []), ([11, 10, 10, 0, 1, 2, 3, 4, 5, 6, 7, 8, 9, 10], [10, 11])])
def spec_l2Copy.B5 : List Nat := [0, 1, 0, 0, 8, 0, 56, 120, 252, 508, 1023, 2047, 4095]
theorem spec_l2Copy.tab5 : rtab .any (opsOf Try.f80 5) = spec_l2Copy.T5 := by kernel_rfl
theorem spec_l2Copy.bits5 : waitsOk spec_l2Copy.T5.2 spec_l2Copy.B5 = true := by kernel_rfl
theorem ll {p : Prop} (h : p := by repeat (first | (with_reducible first | exact HB.out | apply below_alloc | apply pw_below_drewN | apply below_drew1 | refine below_set ?_ es4.out | refine below_set ?_ es5.out | refine below_set ?_ es6.out) | exact HB.out)) : p := h
set_option maxHeartbeats 8000000 in
set_option maxRecDepth 100000 in
theorem spec_l2Copy.calls (k : Nat) (af : Option Addr) (ae : Nat) (ab : List Int) (ah : Option Addr) (ag : Nat) (aa : List (List Int)) (r1 : List Int) (r2 : List (List Int)) (w : World) (cg : Kd.C (Kd.int .i64) w af ab.length ab) (ck : ab.length ≤ ae) (ch : Kd.C (Kd.slice 3 (Kd.int .i64)) w ah aa.length aa) (cl : aa.length ≤ ag) (h : spec_l2Copy.f k ab aa = some (r1, r2)) :
  Calls Try.prog 80 #[.agg #[.slice af ab.length ae, .slice ah aa.length ag]] w fun e w' => ∃ v0_ v1_ : Value, e = .returned (.agg #[v0_, v1_]) ∧ Kd.R (Kd.int .i64) 3 w' w.heap.size (fun _ => True) v0_ r1 ∧ Kd.S (Kd.slice 3 (Kd.int .i64)) 22 w' w.heap.size (fun k_ => some k_ ≠ (v0_ : Value).ownBlock) v1_ r2 ∧ Below w.heap.size w w' := by
 have hu25 := Try.underlying25
 have b7 := Aside0.mk cg
 have cn := Aside0.mk ck
 clear cg ck
 have bz := Aside0.mk ch
 have cr := Aside0.mk cl
 clear ch cl
 have HB := Aside0.mk (Below.refl w.heap.size w)
 have H : ((some (([] : List Int) : List Int)).bind fun sj => (if sj.length + ab.length < 17592186044416 then (spec_l2Copy.l0 k 0 ab aa (sj ++ ab) ([] : List (List Int))) else (none))) = some (r1, r2) := h
 clear h
 obtain ⟨sj, hy381⟩ : ∃ y_ : List Int, y_ = (([] : List Int)) := ⟨_, rfl⟩
 replace H : (if sj.length + ab.length < 17592186044416 then (spec_l2Copy.l0 k 0 ab aa (sj ++ ab) ([] : List (List Int))) else (none)) = some (r1, r2) := by first | (rw [hy381]; with_reducible exact H) | (have H2_ := (Option.bind_some _ _).symm.trans H; rw [hy381]; with_reducible exact H2_) | (have H2_ := (Option.bind_some _ _).symm.trans H; with_reducible exact H2_) | with_reducible exact H | (rw [hy381]; exact H) | exact H
 have df3 := Aside0.mk hy381
 clear hy381
 obtain ⟨c2, H⟩ := pos_ H
 have cb8 := Aside0.mk c2
 clear c2
 obtain ⟨g3, hy384⟩ : ∃ y_ : List Int, y_ = (sj ++ ab) := ⟨_, rfl⟩
 replace H : (spec_l2Copy.l0 k 0 ab aa g3 ([] : List (List Int))) = some (r1, r2) := by first | (rw [hy384]; with_reducible exact H) | (have H2_ := (Option.bind_some _ _).symm.trans H; rw [hy384]; with_reducible exact H2_) | (have H2_ := (Option.bind_some _ _).symm.trans H; with_reducible exact H2_) | with_reducible exact H | (rw [hy384]; exact H) | exact H
 have es7 := Aside0.mk hy384
 clear hy384
 have H' := Aside0.mk H
 clear H
 go_enter Try.func80, Try.ntmps80
 go_wp2_with (first | ((with_reducible refine gate_dst (N := 1) rfl ?_); refine bx_ (N := 1) #[.slice af ab.length ae, .slice ah aa.length ag] 25 ?_; intro ly hg w3 hbox hb; have d7 := Aside0.mk (hbox); have ga0 := Aside0.mk ((g39_ : w.heap.size ≤ ly)); have es4 := Aside0.mk ((g39_ : w.heap.size ≤ ly)); replace HB := Aside0.mk (below_step (ll) hb); clear hb hbox hg) | ((with_reducible refine gate_dst (N := 2) rfl ?_); refine bx_ (N := 2) #[.slice none 0 0, .slice none 0 0] 25 ?_; intro lf hg w4 hbox hb; have f6 := Aside0.mk (hbox); have ga1 := Aside0.mk ((g39_ : w.heap.size ≤ lf)); have es5 := Aside0.mk ((g39_ : w.heap.size ≤ lf)); replace HB := Aside0.mk (below_step (ll) hb); have cf5 := Aside0.mk ((by rw [hg]; exact Nat.ne_of_lt (blk_lt (g := ly) (o := .cells #[.slice af ab.length ae, .slice ah aa.length ag] 25 (0, 0)) (uf0_ d7)) : ly ≠ lf)); have cf6 := Aside0.mk ((by rw [hg]; exact Nat.ne_of_gt (blk_lt (g := ly) (o := .cells #[.slice af ab.length ae, .slice ah aa.length ag] 25 (0, 0)) (uf0_ d7)) : lf ≠ ly)); replace d7 := bb_ d7 hb; clear hb hbox hg) | ((with_reducible refine gate_dst (N := 5) rfl ?_); refine Kd.R_lit (Kd.int .i64) _ 3 ?hg (N := 5) ?hd (xs := ([] : List Int)) (inner := []) (ok := fun _ => True) (okp := fun _ => True) ?hr ?hp (fun _ hk => hk) trivial (Below.refl _ _) (Nat.le_refl _) (by simp) ?_; (case hd => rfl); (case hg => rfl); (case hr => first | (go_simp; done) | (go_simp; rfl)); (case hp => exact (Reps.none _ _)); intro es8 w5 qy hb hg_ hnew_; clear hg_ hnew_; (first | rw [← df3.out] at qy | (simp only [Int.reduceToNat] at qy; rw [← df3.out] at qy)); have bj8 := Aside0.mk (Kd.R_lower qy (below_size (ll))); replace d7 := bb_ d7 hb; replace f6 := bb_ f6 hb; replace HB := Aside0.mk (below_step (ll) hb); clear hb qy; have cb9 := cf5.out; have cc0 := cf6.out; obtain ⟨ko, kr, ks, kt⟩ := blk2_ d7) | ((with_reducible refine gate_builtin (b := .append) (xs := #[.tmp 5, .tmp 7]) rfl ?_); at_builtin; refine Kd.R_append_rows (Kd.int .i64) (w0 := w) w.heap.size rfl (.tmp 5) (.tmp 7) 22 3 (.int .i64 0) 8 rfl Try.underlying22 info3 rfl (by decide) (by omega) es8 sj ab _ _ _ (fun _ => True) (fun _ => False) rfl rfl ?aO ?aR (fun _ _ h => h) (fun _ h => h.elim) ?aF ?aB ?aS ?aL ?_; (case aR => exact uf2_ b7); (case aB => exact (ll)); (case aF => exact (fun _ _ => trivial)); (case aO => exact (uf1_ bj8)); (case aS => exact (below_size (ll))); (case aL => have := cb8.out; omega); intro ga2 w9 ho hb hg hat; rw [← es7.out] at ho; replace d7 := Aside0.mk (blk_grown (g := ly) (o := .cells #[.slice af ab.length ae, .slice ah aa.length ag] 25 (0, 0)) (uf0_ d7) hg (Kd.R_ne bj8.out d7.out (by decide))); replace f6 := Aside0.mk (blk_grown (g := lf) (o := .cells #[.slice none 0 0, .slice none 0 0] 25 (0, 0)) (uf0_ f6) hg (Kd.R_ne bj8.out f6.out (by decide))); replace HB := Aside0.mk (hb); have bj9 := Aside0.mk (ho); clear bj8; clear ho hb hg hat; obtain ⟨cy, cz, p8⟩ := Kd.R_slice bj9.out; subst p8) | ((with_reducible refine gate_dst (N := 3) rfl ?_); refine bx_ (N := 3) #[.slice none 0 0, .slice none 0 0] 25 ?_; intro lz hg w11 hbox hb; replace bj9 := Aside0.mk (Kd.R_below (uf1_ bj9) hb); have fd := Aside0.mk (hbox); have ga3 := Aside0.mk ((g39_ : w.heap.size ≤ lz)); have es6 := Aside0.mk ((g39_ : w.heap.size ≤ lz)); replace HB := Aside0.mk (below_step (ll) hb); have ab2 := Aside0.mk ((by rw [hg]; exact Nat.ne_of_lt (blk_lt (g := ly) (o := .cells #[.slice af ab.length ae, .slice ah aa.length ag] 25 (0, 0)) (uf0_ d7)) : ly ≠ lz)); have bk0 := Aside0.mk ((by rw [hg]; exact Nat.ne_of_gt (blk_lt (g := ly) (o := .cells #[.slice af ab.length ae, .slice ah aa.length ag] 25 (0, 0)) (uf0_ d7)) : lz ≠ ly)); replace d7 := bb_ d7 hb; have ah5 := Aside0.mk ((by rw [hg]; exact Nat.ne_of_lt (blk_lt (g := lf) (o := .cells #[.slice none 0 0, .slice none 0 0] 25 (0, 0)) (uf0_ f6)) : lf ≠ lz)); have cf7 := Aside0.mk ((by rw [hg]; exact Nat.ne_of_gt (blk_lt (g := lf) (o := .cells #[.slice none 0 0, .slice none 0 0] 25 (0, 0)) (uf0_ f6)) : lz ≠ lf)); replace f6 := bb_ f6 hb; clear hb hbox hg; have bg8 := bk0.out; have bg9 := ab2.out; have bb2 := cf7.out; have bb3 := ah5.out; obtain ⟨ad5, ad6, ad7, ad8⟩ := blk2_ fd))
 go_loopg [4] k (fun kq v4 w' => ∃ (d8 : Int) (pm : List (List Int)) (rg : Value), v4 = .int .i64 d8 ∧ Aside0 (spec_l2Copy.l0 kq d8 ab aa g3 pm = some (r1, r2)) ∧ Aside0 (kq ≤ k) ∧ Aside0 (Kd.R (Kd.int .i64) 3 w' w.heap.size (fun _ => True) (.slice cy g3.length cz) g3) ∧ Aside0 (Kd.S (Kd.slice 3 (Kd.int .i64)) 22 w' w.heap.size (fun k_ => some k_ ≠ ((.slice cy g3.length cz) : Value).ownBlock) rg pm) ∧ Aside0 (w'.heap[ly]? = some (.cells #[(.slice af ab.length ae), (.slice ah aa.length ag)] 25 (0, 0))) ∧ Aside0 (w'.heap[lf]? = some (.cells #[(.slice none 0 0), (.slice none 0 0)] 25 (0, 0))) ∧ Aside0 (w'.heap[lz]? = some (.cells #[(.slice cy g3.length cz), rg] 25 (0, 0))) ∧ Aside0 (Below w.heap.size w w'))
 case atStart => exact ⟨(0), (([] : List (List Int))), (.slice none 0 0), (g2_), H', ⟨Nat.le_refl _⟩, ⟨by (with_reducible repeat (first | apply Kd.R_alloc | apply Kd.R_drewN | apply Kd.R_drew)); exact Kd.R_mono (Kd.R_far (p := ⟨lz, 1, none⟩) (Kd.R_far (p := ⟨lz, 0, none⟩) (Kd.R_types bj9.out fd.out (by decide)) (fun _ hk => hk.2) (.slice cy g3.length cz)) (fun _ hk => hk.2) (.slice none 0 0)) (fun _ hk => trivial)⟩, ⟨g20_⟩, ⟨by (with_reducible repeat (first | refine blk_drewN ?_ _ | refine blk_drew ?_ | refine blk_alloc ?_ _)); refine blk_far ?_ ab2.out _; refine blk_far ?_ ab2.out _; exact uf0_ d7⟩, ⟨by (with_reducible repeat (first | refine blk_drewN ?_ _ | refine blk_drew ?_ | refine blk_alloc ?_ _)); refine blk_far ?_ ah5.out _; refine blk_far ?_ ah5.out _; exact uf0_ f6⟩, ⟨by (with_reducible repeat (first | refine blk_drewN ?_ _ | refine blk_drew ?_ | refine blk_alloc ?_ _)); refine blk_put (cs := #[.slice cy g3.length cz, .slice none 0 0]) ?_ 1 _ rfl; refine blk_put (cs := #[.slice none 0 0, .slice none 0 0]) ?_ 0 _ rfl; exact uf0_ fd⟩, ⟨ll⟩⟩
 case round =>
  clear H'
  try clear c1
  try clear c2
  try clear p2
  try clear c7
  try clear c8
  try clear d2
  try clear fu
  try clear ad5
  try clear ad6
  try clear ko
  try clear kr
  try clear ad7
  try clear ad8
  try clear ks
  try clear kt
  obtain ⟨d8, pm, rg, rfl, HA, HK1, nr, lg, d7, f6, fd, HB⟩ := hrel
  cases gk with
  | zero => exact absurd HA.out (by simp [spec_l2Copy.l0])
  | succ k1 =>
   have H := HA.out
   clear HA
   simp only [spec_l2Copy.l0] at H
   by_cases cb : d8 < (aa.length : Int)
   ·rw [if_pos cb] at H
    have gv := decide_eq_true cb
    clear cb
    obtain ⟨ab1, hy388⟩ : ∃ y_ : List Int, y_ = (([] : List Int)) := ⟨_, rfl⟩
    replace H : (if 0 ≤ d8 then (if ab1.length + (rd_L1 aa d8).length < 17592186044416 then (if pm.length < 5864062014805 then (spec_l2Copy.l0 k1 (wrap64 (d8 + 1)) ab aa g3 (pm ++ [(ab1 ++ (rd_L1 aa d8))])) else (none)) else (none)) else (none)) = some (r1, r2) := by first | (rw [hy388]; with_reducible exact H) | (have H2_ := (Option.bind_some _ _).symm.trans H; rw [hy388]; with_reducible exact H2_) | (have H2_ := (Option.bind_some _ _).symm.trans H; with_reducible exact H2_) | with_reducible exact H | (rw [hy388]; exact H) | exact H
    have df4 := Aside0.mk hy388
    clear hy388
    obtain ⟨ed, H⟩ := pos_ H
    have o3 := decide_eq_true ed
    clear ed
    obtain ⟨ep, H⟩ := pos_ H
    have es9 := Aside0.mk ep
    clear ep
    obtain ⟨as5, hy392⟩ : ∃ y_ : List Int, y_ = (ab1 ++ (rd_L1 aa d8)) := ⟨_, rfl⟩
    replace H : (if pm.length < 5864062014805 then (spec_l2Copy.l0 k1 (wrap64 (d8 + 1)) ab aa g3 (pm ++ [as5])) else (none)) = some (r1, r2) := by first | (rw [hy392]; with_reducible exact H) | (have H2_ := (Option.bind_some _ _).symm.trans H; rw [hy392]; with_reducible exact H2_) | (have H2_ := (Option.bind_some _ _).symm.trans H; with_reducible exact H2_) | with_reducible exact H | (rw [hy392]; exact H) | exact H
    have et0 := Aside0.mk hy392
    clear hy392
    obtain ⟨lp, H⟩ := pos_ H
    have et1 := Aside0.mk lp
    clear lp
    obtain ⟨as6, hy395⟩ : ∃ y_ : List (List Int), y_ = (pm ++ [as5]) := ⟨_, rfl⟩
    replace H : (spec_l2Copy.l0 k1 (wrap64 (d8 + 1)) ab aa g3 as6) = some (r1, r2) := by first | (rw [hy395]; with_reducible exact H) | (have H2_ := (Option.bind_some _ _).symm.trans H; rw [hy395]; with_reducible exact H2_) | (have H2_ := (Option.bind_some _ _).symm.trans H; with_reducible exact H2_) | with_reducible exact H | (rw [hy395]; exact H) | exact H
    have et2 := Aside0.mk hy395
    clear hy395
    have H' := Aside0.mk H
    clear H
    have ga4 := cf5.out
    have ga5 := cf6.out
    have et3 := ab2.out
    have et4 := bk0.out
    obtain ⟨ak2, ak3, ba4, ak4⟩ := blk2_ d7
    try go_wp2
    replace nr := Aside0.mk (Kd.R_drew nr.out)
    replace lg := Aside0.mk (Kd.S_drew lg.out)
    replace d7 := Aside0.mk (blk_drew d7.out)
    replace f6 := Aside0.mk (blk_drew f6.out)
    replace fd := Aside0.mk (blk_drew fd.out)
    replace HB := Aside0.mk (below_drew1 HB.out)
    have cf8 : 0 ≤ (d8 : Int) := of_decide_eq_true (g0_)
    have cf9 : d8 < (aa.length : Int) := of_decide_eq_true (g0_)
    obtain ⟨bk1, et5, et6, et7, bk2, df5, df6⟩ := at_L1 bz.out d8 cf8 cf9
    have ah6 := bk2
    cases et7
    replace bk2 := cl_ HB bk2
    have df7 := Aside0.mk df6
    have ga6 := Aside0.mk df5
    clear df6 df5
    replace cf8 := eq_true cf8
    replace cf9 := eq_true cf9
    refine start_ (n := 13) (S := fun w' => w'.cell? ⟨lz, 0, none⟩ = some (.slice cy g3.length cz) ∧ w'.cell? ⟨lz, 1, none⟩ = some (rg) ∧ w'.cell? ⟨ly, 0, none⟩ = some (.slice af ab.length ae) ∧ w'.cell? ⟨ly, 1, none⟩ = some (.slice (some bk1) aa.length ag) ∧ w'.cell? (bk1.add (d8).toNat) = some (.slice et5 (rd_L1 aa d8).length et6)) (ds := [12]) (tl_ 13 0) (g1_) rfl (g1_) ⟨(blk_cell fd.out 0).trans rfl, (blk_cell fd.out 1).trans rfl, (blk_cell d7.out 0).trans rfl, (blk_cell d7.out 1).trans rfl, ((cl_ HB ah6).trans rfl)⟩ (fun hHeld => ?_); refine with_tabW spec_l2Copy.tab5 spec_l2Copy.bits5 (fun HT_ HW_ => ?_)
    generalize wr.drew = w22 at nr lg d7 f6 fd HB df7 bk2 hHeld ⊢
    refine pw_ 0 17 (tl_ 13 1) rfl rfl ?_
    refine pw_ 3 20 (tl_ 13 9) rfl rfl ?_
    refine pw_ 5 22 (tl_ 13 41) rfl rfl ?_
    refine tk4_ 1 18 (tl_ 13 43) rfl rfl hHeld ?_
    refine tk4_ 4 21 (tl_ 13 59) rfl rfl hHeld ?_
    refine pw_ 6 23 (tl_ 13 123) rfl rfl ?_
    refine tk4_ 7 24 (tl_ 13 251) rfl rfl hHeld ?_
    refine one_ (i := 2) (N := some 19) (tl_ 13 255) rfl rfl (one_of HT_.out (g1_)) (by decide) (fun K hK => ?_)
    refine Kd.R_lit_step (Kd.int .i64) _ 3 ?hg (N := 19) ?hd (xs := ([] : List Int)) (inner := []) (ok := fun _ => True) (okp := fun _ => True) ?hr ?hp (fun _ hk => hk) trivial (Below.refl _ _) (Nat.le_refl _) (by simp) ?_; (case hd => rfl); (case hg => rfl); (case hr => first | (go_simp; done) | (go_simp; rfl)); (case hp => exact (Reps.none _ _))
    intro et8 w23 ab3 hb hg_ hnew_
    clear hg_ hnew_
    (first | rw [← df4.out] at ab3 | (simp only [Int.reduceToNat] at ab3; rw [← df4.out] at ab3))
    replace lg := Aside0.mk (Kd.S_elder' (uf3_ lg) (Kd.R_base ab3) hb)
    have as7 := Aside0.mk (Kd.R_lower (Kd.R_new' ab3 (Kd.R_lt (uf1_ nr))) (below_size (ll)))
    replace nr := Aside0.mk (Kd.R_elder' (uf1_ nr) (Kd.R_base ab3) hb)
    replace d7 := bb_ d7 hb
    replace f6 := bb_ f6 hb
    replace fd := bb_ fd hb
    replace HB := Aside0.mk (below_step (ll) hb)
    clear hb ab3
    refine hK.out _ _ ⟨(blk_cell fd.out 0).trans rfl, (blk_cell fd.out 1).trans rfl, (blk_cell d7.out 0).trans rfl, (blk_cell d7.out 1).trans rfl, ((cl_ HB ah6).trans rfl)⟩ (fun hHeld => ?_)
    clear hK K
    refine nm_ ?_
    refine one_ (i := 8) (N := some 25) (tl_ 13 511) rfl rfl (one_of HT_.out (g1_)) (by decide) (fun K hK => ?_)
    refine Kd.R_append_rows_step (Kd.int .i64) (w0 := w) w.heap.size (by rfl) (.tmp 19) (.tmp 24) 22 3 (.int .i64 0) 8 rfl Try.underlying22 info3 rfl (by decide) (by omega) et8 ab1 (rd_L1 aa d8) _ _ _ (fun k_ => some k_ ≠ (.slice cy g3.length cz : Value).ownBlock) (fun _ => False) rfl rfl ?aO ?aR (fun _ _ h => h) (fun _ h => h.elim) ?aF ?aB ?aS ?aL ?_
    (case aR => exact uf2_ df7)
    (case aB => exact (ll))
    (case aF => exact (fun k_ hk => Kd.fresh' (Kd.R_lt (uf1_ nr)) k_ hk))
    (case aO => exact (by (with_reducible repeat (first | apply Kd.R_alloc | apply Kd.R_drewN | apply Kd.R_drew)); exact Kd.R_mono as7.out (fun _ hk => hk.2)))
    (case aS => exact (below_size (ll)))
    (case aL => have := es9.out; omega)
    intro ga7 pa ho hb hg hat
    rw [← et0.out] at ho
    replace nr := Aside0.mk (Kd.R_after (ok := (fun _ => True)) (uf1_ nr) hg hat)
    replace lg := Aside0.mk (Kd.S_after (ok := (fun k_ => some k_ ≠ (.slice cy g3.length cz : Value).ownBlock)) (uf3_ lg) hg hat)
    replace d7 := Aside0.mk (blk_grown (g := ly) (o := .cells #[.slice af ab.length ae, .slice (some bk1) aa.length ag] 25 (0, 0)) (uf0_ d7) hg (Kd.R_ne as7.out d7.out (by decide)))
    replace f6 := Aside0.mk (blk_grown (g := lf) (o := .cells #[.slice none 0 0, .slice none 0 0] 25 (0, 0)) (uf0_ f6) hg (Kd.R_ne as7.out f6.out (by decide)))
    replace fd := Aside0.mk (blk_grown (g := lz) (o := .cells #[.slice cy g3.length cz, rg] 25 (0, 0)) (uf0_ fd) hg (Kd.R_ne as7.out fd.out (by decide)))
    replace HB := Aside0.mk (hb)
    have bk3 := Aside0.mk (ho)
    clear as7
    clear ho hb hg hat
    obtain ⟨ag8, ag9, ar4⟩ := Kd.R_slice bk3.out
    (first | subst ar4 | (injection ar4 with f1_ f2_ f3_; have f4_ := f1_.symm; have f5_ := f3_.symm; clear f1_ f2_ f3_; subst f4_; subst f5_))
    refine hK.out _ _ ⟨(blk_cell fd.out 0).trans rfl, (blk_cell fd.out 1).trans rfl, (blk_cell d7.out 0).trans rfl, (blk_cell d7.out 1).trans rfl, ((cl_ HB ah6).trans rfl)⟩ (fun hHeld => ?_)
    clear hK K
    refine nm_ ?_
    refine one_ (i := 9) (N := some 26) (tl_ 13 1023) rfl rfl (one_of HT_.out (g1_)) (by decide) (fun K hK => ?_)
    refine value_ (w1 := ?_) (v := ?_) (by rfl) rfl ?_ ?_
    rotate_left 2
    ·go_simp
     constructor
     ·rfl
     ·rfl
    refine hK.out _ _ ⟨(blk_cell (blk_alloc fd.out _) 0).trans rfl, (blk_cell (blk_alloc fd.out _) 1).trans rfl, (blk_cell (blk_alloc d7.out _) 0).trans rfl, (blk_cell (blk_alloc d7.out _) 1).trans rfl, (World.cell?_alloc_lt _ _ _ (World.block_lt_of_cell? _ _ (((cl_ HB ah6).trans rfl)))).trans (((cl_ HB ah6).trans rfl))⟩ (fun hHeld => ?_)
    clear hK K
    refine nm_ ?_
    refine one_ (i := 10) (N := some 27) (tl_ 13 2047) rfl rfl (one_of HT_.out (g1_)) (by decide) (fun K hK => ?_)
    refine Kd.S_append_step (Kd.slice 3 (Kd.int .i64)) (w0 := w) w.heap.size (by rfl) (.tmp 18) (.tmp 26) 23 22 (.slice none 0 0) 24 rfl Try.underlying23 info22 rfl (by decide) (by omega) rg pm as5 [.slice ag8 as5.length ag9] (fun k_ => some k_ ≠ (.slice cy g3.length cz : Value).ownBlock) (fun k_ => some k_ = (.slice ag8 as5.length ag9 : Value).ownBlock) rfl rfl ?aP (fun k_ hk_ => ((Kd.R_mono (ok' := fun k_ => ((fun k_ => some k_ ≠ (.slice cy g3.length cz : Value).ownBlock)) k_ ∧ some k_ ≠ (rg : Value).ownBlock) (Kd.R_apart' (bk3.out) (Kd.S_typed lg.out) (by decide)) (fun k_ hk => ⟨hk.1, hk.2⟩))).1 k_ hk_.symm) ?aF ?aO ?aB ?aS ?aL ?_
    (case aP => exact Kd.M_row (Kd.R_mono (Kd.R_tight rfl (Kd.R_mono (ok' := fun k_ => ((fun k_ => some k_ ≠ (.slice cy g3.length cz : Value).ownBlock)) k_ ∧ some k_ ≠ (rg : Value).ownBlock) (Kd.R_apart' (bk3.out) (Kd.S_typed lg.out) (by decide)) (fun k_ hk => ⟨hk.1, hk.2⟩))) (fun _ h_ => h_)))
    (case aB => exact (ll))
    (case aF => exact (fun k_ hk => Kd.fresh' (Kd.R_lt (uf1_ nr)) k_ hk))
    (case aO => exact (by (with_reducible repeat (first | apply Kd.S_alloc | apply Kd.S_drewN | apply Kd.S_drew)); exact Kd.S_mono lg.out (fun k_ hk => ⟨hk.1, fun e_ => hk.2 e_⟩)))
    (case aS => exact (below_size (ll)))
    (case aL => have := et1.out; omega)
    intro ga8 w26 ho hb hg hat
    rw [← et2.out] at ho
    replace nr := Aside0.mk (Kd.R_over' (uf1_ nr) (Kd.S_typed (uf3_ lg)) (by decide) hg)
    replace d7 := Aside0.mk (blk_grown (g := ly) (o := .cells #[.slice af ab.length ae, .slice (some bk1) aa.length ag] 25 (0, 0)) (uf0_ d7) hg (Kd.S_ne lg.out d7.out (by decide)))
    replace f6 := Aside0.mk (blk_grown (g := lf) (o := .cells #[.slice none 0 0, .slice none 0 0] 25 (0, 0)) (uf0_ f6) hg (Kd.S_ne lg.out f6.out (by decide)))
    replace fd := Aside0.mk (blk_grown (g := lz) (o := .cells #[.slice cy g3.length cz, rg] 25 (0, 0)) (uf0_ fd) hg (Kd.S_ne lg.out fd.out (by decide)))
    replace HB := Aside0.mk (hb)
    have df8 := Aside0.mk (ho)
    clear lg bk3
    clear ho hb hg hat
    obtain ⟨bc6, ae4, bc7⟩ := Kd.S_slice df8.out
    (first | subst bc7 | (injection bc7 with f1_ f2_ f3_; have f4_ := f1_.symm; have f5_ := f3_.symm; clear f1_ f2_ f3_; subst f4_; subst f5_))
    refine hK.out _ _ ⟨(blk_cell fd.out 0).trans rfl, (blk_cell fd.out 1).trans rfl, (blk_cell d7.out 0).trans rfl, (blk_cell d7.out 1).trans rfl, ((cl_ HB ah6).trans rfl)⟩ (fun hHeld => ?_)
    clear hK K
    refine nm_ ?_
    refine pw_ 11 28 (tl_ 13 4095) rfl rfl ?_
    refine last_ (i := 12) (N := none) (tl_ 13 8191) rfl rfl (one_of HT_.out (g1_)) (by decide) (fun K hK => ?_)
    have ga9 : w26.cell? ⟨lz, 1, none⟩ = some (rg) := (blk_cell fd.out 1).trans rfl
    have gb0 := blk_frozen fd.out 1
    have gb1 := ab2.out
    have gb2 := ah5.out
    have gb3 := bk0.out
    have gb4 := cf7.out
    refine skip_ (w1 := ?_) (by rfl) rfl ?_ ?_
    rotate_left
    ·go_simp
     rfl
    refine hK.out _ _ ?_
    clear hK K
    refine done_ (done_of HT_.out (g1_)) ?_
    try go_wp2
    go_roundg k1
    case measure => have := HK1.out; omega
    case rel => exact ⟨(wrap64 (d8 + 1)), (as6), (.slice bc6 as6.length ae4), (g2_), H', ⟨g9_⟩, ⟨by (with_reducible repeat (first | apply Kd.R_alloc | apply Kd.R_drewN | apply Kd.R_drew)); exact Kd.R_mono (Kd.R_far (p := ⟨lz, 1, none⟩) (Kd.R_types nr.out fd.out (by decide)) (fun _ hk => hk.2) (.slice bc6 as6.length ae4)) (fun _ hk => trivial)⟩, ⟨by (with_reducible repeat (first | apply Kd.S_alloc | apply Kd.S_drewN | apply Kd.S_drew)); exact Kd.S_mono (Kd.S_far (p := ⟨lz, 1, none⟩) (Kd.S_types df8.out fd.out (by decide)) (fun _ hk => hk.2) (.slice bc6 as6.length ae4)) (fun _ hk => hk.1)⟩, ⟨by (with_reducible repeat (first | refine blk_drewN ?_ _ | refine blk_drew ?_ | refine blk_alloc ?_ _)); refine blk_far ?_ ab2.out _; exact uf0_ d7⟩, ⟨by (with_reducible repeat (first | refine blk_drewN ?_ _ | refine blk_drew ?_ | refine blk_alloc ?_ _)); refine blk_far ?_ ah5.out _; exact uf0_ f6⟩, ⟨by (with_reducible repeat (first | refine blk_drewN ?_ _ | refine blk_drew ?_ | refine blk_alloc ?_ _)); refine blk_put (cs := #[.slice cy g3.length cz, rg]) ?_ 1 _ rfl; exact uf0_ fd⟩, ⟨ll⟩⟩
   ·rw [if_neg cb] at H
    have gv := decide_eq_false cb
    clear cb
    simp only [Option.some.injEq, Prod.mk.injEq] at H
    obtain ⟨rfl, rfl⟩ := H
    have dc4 := cf5.out
    have dc5 := cf6.out
    have df9 := ab2.out
    have dg0 := bk0.out
    obtain ⟨xa, xb, xc, xd⟩ := blk2_ d7
    have et9 := cf7.out
    have eu0 := ah5.out
    obtain ⟨eu1, eu2, eu3, eu4⟩ := blk2_ fd
    obtain ⟨gb5, gb6, gb7, gb8⟩ := blk2_ f6
    obtain ⟨ns, nt, cg0⟩ := Kd.S_slice lg.out
    subst cg0
    go_wp2
    refine bodyPost_ret (results_cell_row rfl _ _ lf 25 #[.slice cy g3.length cz, .slice ns pm.length nt] (0, 0) _ rfl (by (with_reducible repeat (first | refine blk_drewN ?_ _ | refine blk_drew ?_ | refine blk_alloc ?_ _)); refine blk_put (cs := #[.slice cy g3.length cz, .slice none 0 0]) ?_ 1 _ rfl; refine blk_put (cs := #[.slice none 0 0, .slice none 0 0]) ?_ 0 _ rfl; exact uf0_ f6) Try.underlying25 rfl (g1_)) rfl ?_
    exact ⟨_, _, g4_, by (with_reducible repeat (first | apply Kd.R_alloc | apply Kd.R_drewN | apply Kd.R_drew)); exact Kd.R_mono (Kd.R_far (p := ⟨lf, 1, none⟩) (Kd.R_far (p := ⟨lf, 0, none⟩) (Kd.R_types nr.out f6.out (by decide)) (fun _ hk => hk.2) (.slice cy g3.length cz)) (fun _ hk => hk.2) (.slice ns pm.length nt)) (fun _ hk => trivial), by (with_reducible repeat (first | apply Kd.S_alloc | apply Kd.S_drewN | apply Kd.S_drew)); exact Kd.S_mono (Kd.S_far (p := ⟨lf, 1, none⟩) (Kd.S_far (p := ⟨lf, 0, none⟩) (Kd.S_types lg.out f6.out (by decide)) (fun _ hk => hk.2) (.slice cy g3.length cz)) (fun _ hk => hk.2) (.slice ns pm.length nt)) (fun _ hk => hk.1), ll⟩
mutual
def spec_l3Struck.l0 : Nat → List Int → Int → Int → List Int → List (List Int) → List Int → List (List Int) → Option (List Int × (List (List Int)))
 | 0, _, _, _, _, _, _, _ => none
 | k + 1, x1, x6, x7, bk4, sk, as8, xe => if x7 < (x1.length : Int) then (if 0 ≤ x7 then (if 0 ≤ (rd x1 x7) then (if (rd x1 x7) < (sk.length : Int) then (if (x1.length : Int) = 0 then (none) else (if 0 ≤ (Int.tmod (wrap64 (x7 + 1)) (x1.length : Int)) then (if (Int.tmod (wrap64 (x7 + 1)) (x1.length : Int)) < (x1.length : Int) then (if 0 ≤ (rd x1 (Int.tmod (wrap64 (x7 + 1)) (x1.length : Int))) then (if (rd x1 (Int.tmod (wrap64 (x7 + 1)) (x1.length : Int))) < ((rd_L1 sk (rd x1 x7)).length : Int) then (spec_l3Struck.l0 k x1 (mn x6 (rd (rd_L1 sk (rd x1 x7)) (rd x1 (Int.tmod (wrap64 (x7 + 1)) (x1.length : Int))))) (wrap64 (x7 + 1)) bk4 sk as8 xe) else (none)) else (none)) else (none)) else (none))) else (none)) else (none)) else (none)) else (spec_l3Struck.l1 k x1 x6 0 bk4 sk as8 xe)
def spec_l3Struck.l1 : Nat → List Int → Int → Int → List Int → List (List Int) → List Int → List (List Int) → Option (List Int × (List (List Int)))
 | 0, _, _, _, _, _, _, _ => none
 | k + 1, x1, x6, x8, bk4, sk, as8, xe => if x8 < (x1.length : Int) then (if 0 ≤ x8 then (if (x1.length : Int) = 0 then (none) else (if 0 ≤ (Int.tmod (wrap64 (x8 + 1)) (x1.length : Int)) then (if (Int.tmod (wrap64 (x8 + 1)) (x1.length : Int)) < (x1.length : Int) then (if 0 ≤ (rd x1 x8) then (if (rd x1 x8) < (xe.length : Int) then (if (rd x1 x8) < (sk.length : Int) then (if 0 ≤ (rd x1 (Int.tmod (wrap64 (x8 + 1)) (x1.length : Int))) then (if (rd x1 (Int.tmod (wrap64 (x8 + 1)) (x1.length : Int))) < ((rd_L1 sk (rd x1 x8)).length : Int) then (if (rd x1 (Int.tmod (wrap64 (x8 + 1)) (x1.length : Int))) < ((rd_L1 xe (rd x1 x8)).length : Int) then (spec_l3Struck.l1 k x1 x6 (wrap64 (x8 + 1)) bk4 sk as8 (xe.set ((rd x1 x8) : Int).toNat ((rd_L1 xe (rd x1 x8)).set ((rd x1 (Int.tmod (wrap64 (x8 + 1)) (x1.length : Int))) : Int).toNat (wrap64 ((rd (rd_L1 sk (rd x1 x8)) (rd x1 (Int.tmod (wrap64 (x8 + 1)) (x1.length : Int)))) - x6))))) else (none)) else (none)) else (none)) else (none)) else (none)) else (none)) else (none)) else (none))) else (none)) else (some (as8, xe))
end
def spec_l3Struck.f (k : Nat) (ab : List Int) (aa : List (List Int)) (l1 : List Int) : Option (List Int × (List (List Int))) := (spec_l2Copy.f k ab aa).bind fun bt400 => (spec_l3Struck.l0 k l1 9 0 ab aa bt400.1 bt400.2)
theorem spec_l3Struck.mq {p : Prop} (h : p := by
 repeat' first
 | (with_reducible exact ih0 _ _ _ _ _ _ _)
 | (with_reducible exact ih1 _ _ _ _ _ _ _)
 | (with_reducible exact spec_l2Copy.mono _ _ _)
 | (with_reducible exact LeO.refl _)
 | (with_reducible exact LeO.none _)
 | (with_reducible refine LeO.ite ?_ ?_)
 | (with_reducible refine LeO.bind ?_ (fun _ => ?_))
 | exact ih0 _ _ _ _ _ _ _
 | exact ih1 _ _ _ _ _ _ _
 | exact spec_l2Copy.mono _ _ _
 | exact LeO.none _
 | refine LeO.ite ?_ ?_
 | refine LeO.bind ?_ (fun _ => ?_)) : p := h
theorem spec_l3Struck.mono_l : ∀ k, (∀ y0 y1 y2 y3 y4 y5 y6, LeO (spec_l3Struck.l0 k y0 y1 y2 y3 y4 y5 y6) (spec_l3Struck.l0 (k + 1) y0 y1 y2 y3 y4 y5 y6)) ∧ (∀ y0 y1 y2 y3 y4 y5 y6, LeO (spec_l3Struck.l1 k y0 y1 y2 y3 y4 y5 y6) (spec_l3Struck.l1 (k + 1) y0 y1 y2 y3 y4 y5 y6))
 | 0 => ⟨fun _ _ _ _ _ _ _ r h => by simp [spec_l3Struck.l0] at h, fun _ _ _ _ _ _ _ r h => by simp [spec_l3Struck.l1] at h⟩
 | k + 1 => by
  obtain ⟨ih0, ih1⟩ := spec_l3Struck.mono_l k
  refine ⟨?_, ?_⟩
  ·intro y0 y1 y2 y3 y4 y5 y6
   unfold spec_l3Struck.l0
   exact spec_l3Struck.mq
  ·intro y0 y1 y2 y3 y4 y5 y6
   unfold spec_l3Struck.l1
   exact spec_l3Struck.mq
theorem spec_l3Struck.mono : ∀ a0 a1 a2 k, LeO (spec_l3Struck.f k a0 a1 a2) (spec_l3Struck.f (k + 1) a0 a1 a2) := by
 intro a0 a1 a2 k
 obtain ⟨ih0, ih1⟩ := spec_l3Struck.mono_l k
 unfold spec_l3Struck.f
 exact spec_l3Struck.mq
def spec_l3Struck.T6 : Bool × List (List Nat × List Nat) := (true, [([], []), ([], []), ([1], [1]), ([], []), ([], []), ([3, 4], [3, 4]), ([5], [5]), ([2, 6], [2, 6]), ([7], [7]), ([], []), ([], []), ([10], [10]), ([], []), ([12], [12]), ([11, 13], [11, 13]), ([9, 14], [9, 14]), ([15], [15]), ([8, 16], [8, 16]), ([17], [17]), ([0, 18], [0, 18]), ([19, 0, 1, 2, 3, 4, 5, 6, 7, 8, 9, 10, 11, 12, 13, 14, 15, 16, 17, 18, 19], [0, 19])])
def spec_l3Struck.B6 : List Nat := [0, 0, 2, 0, 0, 24, 56, 126, 254, 0, 0, 1024, 0, 4096, 15360, 32256, 65024, 131070, 262142, 524287, 1048575]
theorem spec_l3Struck.tab6 : rtab .any (opsOf Try.f98 6) = spec_l3Struck.T6 := by kernel_rfl
theorem spec_l3Struck.bits6 : waitsOk spec_l3Struck.T6.2 spec_l3Struck.B6 = true := by kernel_rfl
def spec_l3Struck.T12 : Bool × List (List Nat × List Nat) := (true, [([], []), ([0], [0]), ([], []), ([1, 2], [1, 2]), ([3], [3]), ([], []), ([], []), ([6], [6]), ([], []), ([7, 8], [7, 8]), ([9], [9]), ([], []), ([10, 11], [10, 11]), ([12], [12]), ([], []), ([13, 14], [13, 14]), ([4, 5, 0, 1, 2, 3, 4, 5, 6, 7, 8, 9, 10, 11, 12, 13, 14, 15], [4, 5]), ([16, 15, 0, 1, 2, 3, 4, 5, 6, 7, 8, 9, 10, 11, 12, 13, 14, 15], [15, 16])])
def spec_l3Struck.B12 : List Nat := [0, 1, 0, 7, 15, 0, 0, 64, 0, 448, 960, 0, 4032, 8128, 0, 32704, 65535, 131071]
theorem spec_l3Struck.tab12 : rtab .any (opsOf Try.f98 12) = spec_l3Struck.T12 := by kernel_rfl
theorem spec_l3Struck.bits12 : waitsOk spec_l3Struck.T12.2 spec_l3Struck.B12 = true := by kernel_rfl
theorem pt {p : Prop} (h : p := by repeat (first | (with_reducible first | exact HB.out | apply below_alloc | apply pw_below_drewN | apply below_drew1 | refine below_set ?_ eu5.out | refine below_set ?_ eu6.out | refine below_set ?_ eu7.out | refine below_set ?_ GB39.out) | exact HB.out)) : p := h
set_option maxHeartbeats 8000000 in
set_option maxRecDepth 100000 in
theorem spec_l3Struck.calls (k : Nat) (af : Option Addr) (ae : Nat) (ab : List Int) (ah : Option Addr) (ag : Nat) (aa : List (List Int)) (A1 : Option Addr) (c1 : Nat) (l1 : List Int) (r1 : List Int) (r2 : List (List Int)) (w : World) (cg : Kd.C (Kd.int .i64) w af ab.length ab) (ck : ab.length ≤ ae) (ch : Kd.C (Kd.slice 3 (Kd.int .i64)) w ah aa.length aa) (cl : aa.length ≤ ag) (gx : Kd.C (Kd.int .i64) w A1 l1.length l1) (gj : l1.length ≤ c1) (h : spec_l3Struck.f k ab aa l1 = some (r1, r2)) :
  Calls Try.prog 98 #[.agg #[.slice af ab.length ae, .slice ah aa.length ag], .slice A1 l1.length c1] w fun e w' => ∃ v0_ v1_ : Value, e = .returned (.agg #[v0_, v1_]) ∧ Kd.R (Kd.int .i64) 3 w' w.heap.size (fun _ => True) v0_ r1 ∧ Kd.S (Kd.slice 3 (Kd.int .i64)) 22 w' w.heap.size (fun k_ => some k_ ≠ (v0_ : Value).ownBlock) v1_ r2 ∧ Below w.heap.size w w' := by
 have hu25 := Try.underlying25
 have b7 := Aside0.mk cg
 have cn := Aside0.mk ck
 clear cg ck
 have bz := Aside0.mk ch
 have cr := Aside0.mk cl
 clear ch cl
 have eh := Aside0.mk gx
 have HC1 := Aside0.mk gj
 clear gx gj
 have HB := Aside0.mk (Below.refl w.heap.size w)
 have H : ((spec_l2Copy.f k ab aa).bind fun bt400 => (spec_l3Struck.l0 k l1 9 0 ab aa bt400.1 bt400.2)) = some (r1, r2) := h
 clear h
 replace H := Option.bind_eq_some_iff.mp H
 obtain ⟨⟨ov, rh⟩, ja, H⟩ := H
 try dsimp only at H
 have A3 := Aside0.mk ja
 clear ja
 have H' := Aside0.mk H
 clear H
 go_enter Try.func98, Try.ntmps98
 go_wp2_with (first | ((with_reducible refine gate_dst (N := 2) rfl ?_); refine bx_ (N := 2) #[.slice af ab.length ae, .slice ah aa.length ag] 25 ?_; intro l3 hg w4 hbox hb; have fy := Aside0.mk (hbox); have gb9 := Aside0.mk ((g40_ : w.heap.size ≤ l3)); have eu5 := Aside0.mk ((g40_ : w.heap.size ≤ l3)); replace HB := Aside0.mk (below_step (pt) hb); clear hb hbox hg) | ((with_reducible refine gate_dst (N := 4) rfl ?_); refine bx_ (N := 4) #[.slice none 0 0, .slice none 0 0] 25 ?_; intro mo hg w5 hbox hb; have h7 := Aside0.mk (hbox); have gc0 := Aside0.mk ((g40_ : w.heap.size ≤ mo)); have eu6 := Aside0.mk ((g40_ : w.heap.size ≤ mo)); replace HB := Aside0.mk (below_step (pt) hb); have dg1 := Aside0.mk ((by rw [hg]; exact Nat.ne_of_lt (blk_lt (g := l3) (o := .cells #[.slice af ab.length ae, .slice ah aa.length ag] 25 (0, 0)) (uf0_ fy)) : l3 ≠ mo)); have dg2 := Aside0.mk ((by rw [hg]; exact Nat.ne_of_gt (blk_lt (g := l3) (o := .cells #[.slice af ab.length ae, .slice ah aa.length ag] 25 (0, 0)) (uf0_ fy)) : mo ≠ l3)); replace fy := bb_ fy hb; clear hb hbox hg; have eo3 := dg1.out; have eo4 := dg2.out; obtain ⟨l7, l8, l9, ma⟩ := blk2_ fy) | ((with_reducible refine gate_callee (f := 80) rfl ?_); refine goesL_ (some 12) rfl rfl Try.func80 k_ rfl #[.agg #[.slice af ab.length ae, .slice ah aa.length ag]] rfl (g3_) ?_; (with_reducible refine (spec_l2Copy.calls k _ _ ab _ _ aa ov rh _ ?side1 ?side2 ?side3 ?side4 A3.out).mono ?_); (case side1 => exact uf2_ b7); (case side2 => exact cn.out); (case side3 => exact uf2_ bz); (case side4 => exact cr.out); rintro e w8 ⟨gc1, gc2, rfl, ac, b6, hb⟩; refine ⟨_, rfl, ?_⟩; have bk5 := Aside0.mk (Kd.R_lower ac (below_size (pt))); have bk6 := Aside0.mk (Kd.S_lower b6 (below_size (pt))); replace fy := bb_ fy hb; replace h7 := bb_ h7 hb; replace HB := Aside0.mk (below_step (pt) hb); (try clear hb); (try clear hk hi); (try clear ac); (try clear b6)) | ((with_reducible refine gate_dst (N := 5) rfl ?_); refine bx_ (N := 5) #[.slice none 0 0, .slice none 0 0] 25 ?_; intro nu hg w9 hbox hb; replace bk5 := Aside0.mk (Kd.R_below (uf1_ bk5) hb); replace bk6 := Aside0.mk (Kd.S_below (uf3_ bk6) hb); have jw := Aside0.mk (hbox); have gc3 := Aside0.mk ((g40_ : w.heap.size ≤ nu)); have eu7 := Aside0.mk ((g40_ : w.heap.size ≤ nu)); replace HB := Aside0.mk (below_step (pt) hb); have bk7 := Aside0.mk ((by rw [hg]; exact Nat.ne_of_lt (blk_lt (g := l3) (o := .cells #[.slice af ab.length ae, .slice ah aa.length ag] 25 (0, 0)) (uf0_ fy)) : l3 ≠ nu)); have dg3 := Aside0.mk ((by rw [hg]; exact Nat.ne_of_gt (blk_lt (g := l3) (o := .cells #[.slice af ab.length ae, .slice ah aa.length ag] 25 (0, 0)) (uf0_ fy)) : nu ≠ l3)); replace fy := bb_ fy hb; have bk8 := Aside0.mk ((by rw [hg]; exact Nat.ne_of_lt (blk_lt (g := mo) (o := .cells #[.slice none 0 0, .slice none 0 0] 25 (0, 0)) (uf0_ h7)) : mo ≠ nu)); have dg4 := Aside0.mk ((by rw [hg]; exact Nat.ne_of_gt (blk_lt (g := mo) (o := .cells #[.slice none 0 0, .slice none 0 0] 25 (0, 0)) (uf0_ h7)) : nu ≠ mo)); replace h7 := bb_ h7 hb; clear hb hbox hg; obtain ⟨cy, cz, p8⟩ := Kd.R_slice bk5.out; subst p8; have cc8 := dg3.out; have cc9 := bk7.out; have bg8 := dg4.out; have bg9 := bk8.out; obtain ⟨ol, om, oo, op⟩ := blk2_ jw; obtain ⟨an, ak, j9⟩ := Kd.S_slice bk6.out; subst j9))
 go_loopg [6, 7] k (fun kq v6 v7 w' => ∃ (fb : Int) (gp : Int), v6 = .int .i64 fb ∧ v7 = .int .i64 gp ∧ Aside0 (spec_l3Struck.l0 kq l1 fb gp ab aa ov rh = some (r1, r2)) ∧ Aside0 (kq ≤ k) ∧ Aside0 (Kd.R (Kd.int .i64) 3 w' w.heap.size (fun _ => True) (.slice cy ov.length cz) ov) ∧ Aside0 (Kd.S (Kd.slice 3 (Kd.int .i64)) 22 w' w.heap.size (fun k_ => some k_ ≠ ((.slice cy ov.length cz) : Value).ownBlock) (.slice an rh.length ak) rh) ∧ Aside0 (w'.heap[l3]? = some (.cells #[(.slice af ab.length ae), (.slice ah aa.length ag)] 25 (0, 0))) ∧ Aside0 (w'.heap[mo]? = some (.cells #[(.slice none 0 0), (.slice none 0 0)] 25 (0, 0))) ∧ Aside0 (w'.heap[nu]? = some (.cells #[(.slice cy ov.length cz), (.slice an rh.length ak)] 25 (0, 0))) ∧ Aside0 (Below w.heap.size w w'))
 case atStart => exact ⟨(9), (0), (g2_), (g2_), H', ⟨Nat.le_refl _⟩, ⟨by (with_reducible repeat (first | apply Kd.R_alloc | apply Kd.R_drewN | apply Kd.R_drew)); exact Kd.R_mono (Kd.R_far (p := ⟨nu, 1, none⟩) (Kd.R_far (p := ⟨nu, 0, none⟩) (Kd.R_types bk5.out jw.out (by decide)) (fun _ hk => hk.2) (.slice cy ov.length cz)) (fun _ hk => hk.2) (.slice an rh.length ak)) (fun _ hk => trivial)⟩, ⟨by (with_reducible repeat (first | apply Kd.S_alloc | apply Kd.S_drewN | apply Kd.S_drew)); exact Kd.S_mono (Kd.S_far (p := ⟨nu, 1, none⟩) (Kd.S_far (p := ⟨nu, 0, none⟩) (Kd.S_types bk6.out jw.out (by decide)) (fun _ hk => hk.2) (.slice cy ov.length cz)) (fun _ hk => hk.2) (.slice an rh.length ak)) (fun _ hk => hk.1)⟩, ⟨by (with_reducible repeat (first | refine blk_drewN ?_ _ | refine blk_drew ?_ | refine blk_alloc ?_ _)); refine blk_far ?_ bk7.out _; refine blk_far ?_ bk7.out _; exact uf0_ fy⟩, ⟨by (with_reducible repeat (first | refine blk_drewN ?_ _ | refine blk_drew ?_ | refine blk_alloc ?_ _)); refine blk_far ?_ bk8.out _; refine blk_far ?_ bk8.out _; exact uf0_ h7⟩, ⟨by (with_reducible repeat (first | refine blk_drewN ?_ _ | refine blk_drew ?_ | refine blk_alloc ?_ _)); refine blk_put (cs := #[.slice cy ov.length cz, .slice none 0 0]) ?_ 1 _ rfl; refine blk_put (cs := #[.slice none 0 0, .slice none 0 0]) ?_ 0 _ rfl; exact uf0_ jw⟩, ⟨pt⟩⟩
 case round =>
  clear H'
  try clear c1
  try clear p2
  try clear c6
  try clear c8
  try clear c9
  try clear d5
  try clear d2
  try clear ol
  try clear om
  try clear l7
  try clear l8
  try clear oo
  try clear op
  try clear l9
  try clear ma
  obtain ⟨fb, gp, rfl, rfl, HA, HK1, pn, kh, fy, h7, jw, HB⟩ := hrel
  cases gk with
  | zero => exact absurd HA.out (by simp [spec_l3Struck.l0])
  | succ k1 =>
   have H := HA.out
   clear HA
   simp only [spec_l3Struck.l0] at H
   by_cases cb : gp < (l1.length : Int)
   ·rw [if_pos cb] at H
    have gv := decide_eq_true cb
    clear cb
    obtain ⟨ed, H⟩ := pos_ H
    have o3 := decide_eq_true ed
    clear ed
    obtain ⟨ep, H⟩ := pos_ H
    have o0 := decide_eq_true ep
    clear ep
    obtain ⟨lp, H⟩ := pos_ H
    have am6 := decide_eq_true lp
    clear lp
    by_cases dr : (l1.length : Int) = 0
    ·rw [if_pos dr] at H
     exact absurd H (by simp)
    ·rw [if_neg dr] at H
     have rq : ((l1.length : Int) == 0) = false := beq_eq_false_iff_ne.mpr dr
     have xp : ((l1.length : Int) != 0) = true := bne_iff_ne.mpr dr
     have ad0 : ¬ (l1 = []) := fun h_ => dr (g26_)
     obtain ⟨ji20, hji20⟩ : ∃ j_ : Int, (Int.tmod (wrap64 (gp + 1)) (l1.length : Int)) = j_ := ⟨_, rfl⟩
     replace H : (if 0 ≤ (ji20) then (if (ji20) < (l1.length : Int) then (if 0 ≤ (rd l1 (ji20)) then (if (rd l1 (ji20)) < ((rd_L1 aa (rd l1 gp)).length : Int) then (spec_l3Struck.l0 k1 l1 (mn fb (rd (rd_L1 aa (rd l1 gp)) (rd l1 (ji20)))) (wrap64 (gp + 1)) ab aa ov rh) else (none)) else (none)) else (none)) else (none)) = some (r1, r2) := by first | (rw [hji20] at H; exact H) | (simp only [hji20] at H ⊢; exact H)
     obtain ⟨jq, H⟩ := pos_ H
     have bu9 := decide_eq_true jq
     clear jq
     obtain ⟨jc, H⟩ := pos_ H
     have be8 := decide_eq_true jc
     clear jc
     obtain ⟨ff, H⟩ := pos_ H
     have zc := decide_eq_true ff
     clear ff
     obtain ⟨gw, H⟩ := pos_ H
     have xw := decide_eq_true gw
     clear gw
     obtain ⟨ji25, hji25⟩ : ∃ j_ : Int, (mn fb (rd (rd_L1 aa (rd l1 gp)) (rd l1 (ji20)))) = j_ := ⟨_, rfl⟩
     replace H : (spec_l3Struck.l0 k1 l1 ji25 (wrap64 (gp + 1)) ab aa ov rh) = some (r1, r2) := by first | (rw [hji25] at H; exact H) | (simp only [hji25] at H ⊢; exact H)
     have hji25_ : (if (rd (rd_L1 aa (rd l1 gp)) (rd l1 (ji20))) < fb then (rd (rd_L1 aa (rd l1 gp)) (rd l1 (ji20))) else fb) = ji25 := hji25
     have H' := Aside0.mk H
     clear H
     try go_wp2
     replace pn := Aside0.mk (Kd.R_drew pn.out)
     replace kh := Aside0.mk (Kd.S_drew kh.out)
     replace fy := Aside0.mk (blk_drew fy.out)
     replace h7 := Aside0.mk (blk_drew h7.out)
     replace jw := Aside0.mk (blk_drew jw.out)
     replace HB := Aside0.mk (below_drew1 HB.out)
     have bk9 : 0 ≤ (gp : Int) := of_decide_eq_true (g0_)
     have bl0 : gp < (l1.length : Int) := of_decide_eq_true (g0_)
     obtain ⟨cg1, eu8, as9⟩ := Kd.at_int eh.out gp bk9 bl0
     have eu9 := as9
     cases eu8
     replace as9 := cl_ HB as9
     replace bk9 := eq_true bk9
     replace bl0 := eq_true bl0
     have bl1 : 0 ≤ ((rd l1 gp) : Int) := of_decide_eq_true (g0_)
     have bl2 : (rd l1 gp) < (aa.length : Int) := of_decide_eq_true (g0_)
     obtain ⟨dg5, gc4, ev0, ev1, at0, dg6, dg7⟩ := at_L1 bz.out (rd l1 gp) bl1 bl2
     have ev2 := at0
     cases ev1
     replace at0 := cl_ HB at0
     have dg8 := Aside0.mk dg7
     have gc5 := Aside0.mk dg6
     clear dg7 dg6
     replace bl1 := eq_true bl1
     replace bl2 := eq_true bl2
     have bl3 : 0 ≤ ((ji20) : Int) := of_decide_eq_true (g0_)
     have bl4 : (ji20) < (l1.length : Int) := of_decide_eq_true (g0_)
     obtain ⟨ev3, ev4, at1⟩ := Kd.at_int eh.out (ji20) bl3 bl4
     have ev5 := at1
     obtain rfl : cg1 = ev3 := (by injection ev4)
     replace at1 := cl_ HB at1
     replace bl3 := eq_true bl3
     replace bl4 := eq_true bl4
     have bl5 : 0 ≤ ((rd l1 (ji20)) : Int) := of_decide_eq_true (g0_)
     have bl6 : (rd l1 (ji20)) < ((rd_L1 aa (rd l1 gp)).length : Int) := of_decide_eq_true (g0_)
     obtain ⟨dg9, ev6, at2⟩ := Kd.at_int dg8.out (rd l1 (ji20)) bl5 bl6
     have ev7 := at2
     cases ev6
     replace at2 := cl_ HB at2
     replace bl5 := eq_true bl5
     replace bl6 := eq_true bl6
     refine start_ (n := 21) (S := fun w' => w'.cell? ⟨l3, 0, none⟩ = some (.slice af ab.length ae) ∧ w'.cell? ⟨l3, 1, none⟩ = some (.slice (some dg5) aa.length ag) ∧ w'.cell? (cg1.add (gp).toNat) = some (.int .i64 (rd l1 gp)) ∧ w'.cell? (dg5.add ((rd l1 gp)).toNat) = some (.slice (some dg9) (rd_L1 aa (rd l1 gp)).length ev0) ∧ w'.cell? (cg1.add ((ji20)).toNat) = some (.int .i64 (rd l1 (ji20))) ∧ w'.cell? (dg9.add ((rd l1 (ji20))).toNat) = some (.int .i64 (rd (rd_L1 aa (rd l1 gp)) (rd l1 (ji20))))) (ds := []) (tl_ 21 0) (g1_) rfl (g1_) ⟨(blk_cell fy.out 0).trans rfl, (blk_cell fy.out 1).trans rfl, ((cl_ HB eu9).trans rfl), ((cl_ HB ev2).trans rfl), ((cl_ HB ev5).trans rfl), ((cl_ HB ev7).trans rfl)⟩ (fun hHeld => ?_); refine with_tabW spec_l3Struck.tab6 spec_l3Struck.bits6 (fun HT_ HW_ => ?_)
     generalize wr.drew = w26 at pn kh fy h7 jw HB dg8 as9 at0 at1 at2 hHeld ⊢
     refine pw_ 0 19 (tl_ 21 1) rfl rfl ?_
     refine pw_ 1 20 (tl_ 21 3) rfl rfl ?_
     refine pw_ 3 22 (tl_ 21 11) rfl rfl ?_
     refine pw_ 4 23 (tl_ 21 27) rfl rfl ?_
     refine pw_ 5 24 (tl_ 21 59) rfl rfl ?_
     refine pw_ 9 28 (tl_ 21 571) rfl rfl ?_
     refine pw_ 10 29 (tl_ 21 1595) rfl rfl ?_
     refine pw_ 11 30 (tl_ 21 3643) rfl rfl ?_
     refine pw_ 12 31 (tl_ 21 7739) rfl rfl ?_
     refine pw_ 13 32 (tl_ 21 15931) rfl rfl ?_
     refine pw_ 14 33 (tl_ 21 32315) rfl rfl ?_
     refine pw_ 15 34 (tl_ 21 65083) rfl rfl ?_
     refine tk2_ 2 21 (tl_ 21 65087) rfl rfl hHeld ?_
     refine tk2_ 6 25 (tl_ 21 65151) rfl rfl hHeld ?_
     refine pw_ 7 26 (tl_ 21 65279) rfl rfl ?_
     refine tk2_ 8 27 (tl_ 21 65535) rfl rfl hHeld ?_
     refine tk2_ 16 35 (tl_ 21 131071) rfl rfl hHeld ?_
     refine pw_ 17 36 (tl_ 21 262143) rfl rfl ?_
     refine tk2_ 18 37 (tl_ 21 524287) rfl rfl hHeld ?_
     refine pw_ 19 38 (tl_ 21 1048575) rfl rfl ?_
     refine pw_ 20 6 (tl_ 21 2097151) rfl rfl ?_
     refine done_ (done_of HT_.out (g1_)) ?_
     try go_wp2
     go_roundg k1
     case measure => have := HK1.out; omega
     case rel => exact ⟨(ji25), (wrap64 (gp + 1)), (by first | rfl | (simp; done) | (simp only [← hji25] <;> (first | rfl | simp)) | (simp [*]; done)), (g2_), H', ⟨g9_⟩, ⟨uf1_ pn⟩, ⟨uf3_ kh⟩, ⟨uf0_ fy⟩, ⟨uf0_ h7⟩, ⟨uf0_ jw⟩, ⟨pt⟩⟩
   ·rw [if_neg cb] at H
    have gv := decide_eq_false cb
    clear cb
    have H' := Aside0.mk H
    clear H
    go_wp2
    go_loopg [8] k1 (fun kq v8 w' => ∃ (dx : Int) (ri : List Int) (ii : List (List Int)) (ah7 : Value) (cg2 : Value), v8 = .int .i64 dx ∧ Aside0 (spec_l3Struck.l1 kq l1 fb dx ab aa ri ii = some (r1, r2)) ∧ Aside0 (kq ≤ k1) ∧ Aside0 (Kd.R (Kd.int .i64) 3 w' w.heap.size (fun _ => True) ah7 ri) ∧ Aside0 (Kd.S (Kd.slice 3 (Kd.int .i64)) 22 w' w.heap.size (fun k_ => some k_ ≠ (ah7 : Value).ownBlock) cg2 ii) ∧ Aside0 (w'.heap[l3]? = some (.cells #[(.slice af ab.length ae), (.slice ah aa.length ag)] 25 (0, 0))) ∧ Aside0 (w'.heap[mo]? = some (.cells #[(.slice none 0 0), (.slice none 0 0)] 25 (0, 0))) ∧ Aside0 (w'.heap[nu]? = some (.cells #[ah7, cg2] 25 (0, 0))) ∧ Aside0 (Below w.heap.size w w'))
    case atStart => exact ⟨(0), (ov), (rh), (.slice cy ov.length cz), (.slice an rh.length ak), (g2_), H', ⟨Nat.le_refl _⟩, ⟨uf1_ pn⟩, ⟨uf3_ kh⟩, ⟨uf0_ fy⟩, ⟨uf0_ h7⟩, ⟨uf0_ jw⟩, ⟨pt⟩⟩
    case round =>
     clear H'
     try clear c1
     try clear c2
     try clear p2
     try clear c4
     try clear p4
     try clear q4
     try clear hx4
     try clear c6
     try clear p6
     try clear c8
     try clear c9
     try clear d5
     try clear d2
     try clear cb
     try clear gv
     try clear ed
     try clear o3
     try clear ep
     try clear o0
     try clear lp
     try clear am6
     try clear dr
     try clear rq
     try clear xp
     try clear ad0
     try clear jq
     try clear bu9
     try clear jc
     try clear be8
     try clear ff
     try clear zc
     try clear gw
     try clear xw
     try clear ol
     try clear om
     try clear l7
     try clear l8
     try clear oo
     try clear op
     try clear l9
     try clear ma
     try clear as9
     try clear at0
     try clear at1
     try clear at2
     try clear p2
     try clear bk9
     try clear bl1
     try clear bl3
     try clear bl5
     try clear bl0
     try clear bl2
     try clear bl4
     try clear bl6
     obtain ⟨dx, ri, ii, ah7, cg2, rfl, HA, HK2, pn, kh, fy, h7, jw, HB⟩ := hrel
     cases gk with
     | zero => exact absurd HA.out (by simp [spec_l3Struck.l1])
     | succ k2 =>
      have H := HA.out
      clear HA
      simp only [spec_l3Struck.l1] at H
      by_cases ec : dx < (l1.length : Int)
      ·rw [if_pos ec] at H
       have ba6 := decide_eq_true ec
       clear ec
       obtain ⟨ib, H⟩ := pos_ H
       have ba7 := decide_eq_true ib
       clear ib
       by_cases la : (l1.length : Int) = 0
       ·rw [if_pos la] at H
        exact absurd H (by simp)
       ·rw [if_neg la] at H
        have da2 : ((l1.length : Int) == 0) = false := beq_eq_false_iff_ne.mpr la
        have gc6 : ((l1.length : Int) != 0) = true := bne_iff_ne.mpr la
        have gc7 : ¬ (l1 = []) := fun h_ => la (g26_)
        obtain ⟨ji30, hji30⟩ : ∃ j_ : Int, (Int.tmod (wrap64 (dx + 1)) (l1.length : Int)) = j_ := ⟨_, rfl⟩
        replace H : (if 0 ≤ (ji30) then (if (ji30) < (l1.length : Int) then (if 0 ≤ (rd l1 dx) then (if (rd l1 dx) < (ii.length : Int) then (if (rd l1 dx) < (aa.length : Int) then (if 0 ≤ (rd l1 (ji30)) then (if (rd l1 (ji30)) < ((rd_L1 aa (rd l1 dx)).length : Int) then (if (rd l1 (ji30)) < ((rd_L1 ii (rd l1 dx)).length : Int) then (spec_l3Struck.l1 k2 l1 fb (wrap64 (dx + 1)) ab aa ri (ii.set ((rd l1 dx) : Int).toNat ((rd_L1 ii (rd l1 dx)).set ((rd l1 (ji30)) : Int).toNat (wrap64 ((rd (rd_L1 aa (rd l1 dx)) (rd l1 (ji30))) - fb))))) else (none)) else (none)) else (none)) else (none)) else (none)) else (none)) else (none)) else (none)) = some (r1, r2) := by first | (rw [hji30] at H; exact H) | (simp only [hji30] at H ⊢; exact H)
        obtain ⟨jt, H⟩ := pos_ H
        have bf7 := decide_eq_true jt
        clear jt
        obtain ⟨ni, H⟩ := pos_ H
        have by2 := decide_eq_true ni
        clear ni
        obtain ⟨pe, H⟩ := pos_ H
        have by3 := decide_eq_true pe
        clear pe
        obtain ⟨jr, H⟩ := pos_ H
        have bc8 := decide_eq_true jr
        clear jr
        obtain ⟨g9, H⟩ := pos_ H
        have an1 := decide_eq_true g9
        clear g9
        obtain ⟨ky, H⟩ := pos_ H
        have bf8 := decide_eq_true ky
        clear ky
        obtain ⟨q9, H⟩ := pos_ H
        have ep7 := decide_eq_true q9
        clear q9
        obtain ⟨c38, H⟩ := pos_ H
        have ep8 := decide_eq_true c38
        clear c38
        obtain ⟨cg3, hy416⟩ : ∃ y_ : List Int, y_ = ((rd_L1 ii (rd l1 dx)).set ((rd l1 (ji30)) : Int).toNat (wrap64 ((rd (rd_L1 aa (rd l1 dx)) (rd l1 (ji30))) - fb))) := ⟨_, rfl⟩
        replace H : (spec_l3Struck.l1 k2 l1 fb (wrap64 (dx + 1)) ab aa ri (ii.set ((rd l1 dx) : Int).toNat cg3)) = some (r1, r2) := by first | (rw [hy416]; with_reducible exact H) | (have H2_ := (Option.bind_some _ _).symm.trans H; rw [hy416]; with_reducible exact H2_) | (have H2_ := (Option.bind_some _ _).symm.trans H; with_reducible exact H2_) | with_reducible exact H | (rw [hy416]; exact H) | exact H
        have ev8 := Aside0.mk hy416
        clear hy416
        obtain ⟨dh0, hy418⟩ : ∃ y_ : List (List Int), y_ = (ii.set ((rd l1 dx) : Int).toNat cg3) := ⟨_, rfl⟩
        replace H : (spec_l3Struck.l1 k2 l1 fb (wrap64 (dx + 1)) ab aa ri dh0) = some (r1, r2) := by first | (rw [hy418]; with_reducible exact H) | (have H2_ := (Option.bind_some _ _).symm.trans H; rw [hy418]; with_reducible exact H2_) | (have H2_ := (Option.bind_some _ _).symm.trans H; with_reducible exact H2_) | with_reducible exact H | (rw [hy418]; exact H) | exact H
        have ev9 := Aside0.mk hy418
        clear hy418
        have H' := Aside0.mk H
        clear H
        have cg4 : 0 ≤ (dx : Int) := of_decide_eq_true (g0_)
        have cg5 : dx < (l1.length : Int) := of_decide_eq_true (g0_)
        obtain ⟨ew0, ew1, dh1⟩ := Kd.at_int eh.out dx cg4 cg5
        cases ew1
        replace dh1 := cl_ HB dh1
        replace cg4 := eq_true cg4
        replace cg5 := eq_true cg5
        have cg6 : 0 ≤ ((ji30) : Int) := of_decide_eq_true (g0_)
        have cg7 : (ji30) < (l1.length : Int) := of_decide_eq_true (g0_)
        obtain ⟨ew2, ew3, dh2⟩ := Kd.at_int eh.out (ji30) cg6 cg7
        obtain rfl : ew0 = ew2 := (by injection ew3)
        replace dh2 := cl_ HB dh2
        replace cg6 := eq_true cg6
        replace cg7 := eq_true cg7
        try go_wp2
        replace pn := Aside0.mk (Kd.R_drew pn.out)
        replace kh := Aside0.mk (Kd.S_drew kh.out)
        replace fy := Aside0.mk (blk_drew fy.out)
        replace h7 := Aside0.mk (blk_drew h7.out)
        replace jw := Aside0.mk (blk_drew jw.out)
        replace HB := Aside0.mk (below_drew1 HB.out)
        obtain ⟨ah1, sh, ww⟩ := Kd.S_slice kh.out
        (first | subst ww | (injection ww with f1_ f2_ f3_; have f4_ := f1_.symm; have f5_ := f3_.symm; clear f1_ f2_ f3_; subst f4_; subst f5_))
        have bl7 : 0 ≤ ((rd l1 dx) : Int) := of_decide_eq_true (g0_)
        have bl8 : (rd l1 dx) < (ii.length : Int) := of_decide_eq_true (g0_)
        obtain ⟨cg8, gc8, ew4, ew5, bl9, dh3, dh4⟩ := at_L1 (Kd.S_reads' kh.out).2.2 (rd l1 dx) bl7 bl8
        cases ew5
        obtain ⟨ce413, hce413, hMe413, hcc413⟩ := Kd.S_get kh.out [] (rd l1 dx) bl7 (by first | exact bl8 | exact of_decide_eq_true (g0_) | (have e_ := (Kd.S_reads' kh.out).1; omega))
        obtain ⟨ve413_0, rfl, ge413_0⟩ := hMe413
        have hv413_0 := hcc413 0 _ rfl
        rw [Nat.add_zero, show ((Kd.slice 3 (Kd.int .i64))).sz = 1 from rfl, Nat.mul_one] at hv413_0
        replace hv413_0 := Option.some.inj (hv413_0.symm.trans bl9)
        rw [hv413_0] at ge413_0
        have ab4 := Aside0.mk (show Kd.R (Kd.int .i64) 3 _ _ _ _ (rd_L1 ii (rd l1 dx)) from ge413_0)
        clear hv413_0 ge413_0
        have HX413_0 := Aside0.mk bl9
        clear hcc413 hce413
        have ew6 := Aside0.mk dh4
        have gc9 := Aside0.mk dh3
        clear dh4 dh3
        replace bl7 := eq_true bl7
        replace bl8 := eq_true bl8
        have cg9 : 0 ≤ ((rd l1 dx) : Int) := of_decide_eq_true (g0_)
        have ch0 : (rd l1 dx) < (aa.length : Int) := of_decide_eq_true (g0_)
        obtain ⟨dh5, gd0, ew7, ew8, bm0, dh6, dh7⟩ := at_L1 bz.out (rd l1 dx) cg9 ch0
        have ew9 := bm0
        cases ew8
        replace bm0 := cl_ HB bm0
        have dh8 := Aside0.mk dh7
        have gd1 := Aside0.mk dh6
        clear dh7 dh6
        replace cg9 := eq_true cg9
        replace ch0 := eq_true ch0
        have ch1 : 0 ≤ ((rd l1 (ji30)) : Int) := of_decide_eq_true (g0_)
        have ch2 : (rd l1 (ji30)) < ((rd_L1 aa (rd l1 dx)).length : Int) := of_decide_eq_true (g0_)
        obtain ⟨dh9, ex0, bm1⟩ := Kd.at_int dh8.out (rd l1 (ji30)) ch1 ch2
        have ex1 := bm1
        cases ex0
        replace bm1 := cl_ HB bm1
        replace ch1 := eq_true ch1
        replace ch2 := eq_true ch2
        have p39 : 0 ≤ ((rd l1 (ji30)) : Int) := of_decide_eq_true (g0_)
        have q39 : ((rd l1 (ji30)) : Int) < (((rd_L1 ii (rd l1 dx)).length : Int) : Int) := of_decide_eq_true (g0_)
        obtain ⟨ah2, ag3, se, as0, gl39, cl39, HG39⟩ := Kd.R_form ab4.out (by omega)
        (first | cases se | (injection se with ea_ en_ ec_; (first | subst ea_ | (injection ea_ with ea_; subst ea_)); subst ec_; clear en_))
        have GB39 := Aside0.mk as0
        have GG39 := Aside0.mk HG39
        clear as0 gl39 HG39
        obtain ⟨ce2, hf39_0⟩ := Kd.R_celln 0 ab4.out ((rd l1 (ji30)) : Int) p39 q39
        replace p39 := eq_true p39
        replace q39 := eq_true q39
        have hq42 : ((rd l1 dx) : Int) < (ii.length : Int) := (by have h_ : ((rd l1 dx) : Int) < ((ii.length : Int) : Int) := of_decide_eq_true (g0_); first | exact h_ | (have e_ := (Kd.S_reads' kh.out).1; omega) | simpa only [List.length_set, List.length_set] using h_)
        obtain ⟨oki42, ce42, hcl42, hM42, hcc42, hok42, hbk42⟩ := Kd.S_borrow kh.out [] ((rd l1 dx) : Int) (of_decide_eq_true (g0_)) (by first | exact hq42 | exact of_decide_eq_true (g0_) | (have e_ := (Kd.S_reads' kh.out).1; omega))
        obtain ⟨ve42_0, rfl, ge42_0⟩ := hM42
        have hv42 := hcc42 0 _ rfl
        rw [Nat.add_zero, show ((Kd.slice 3 (Kd.int .i64))).sz = 1 from rfl, Nat.mul_one] at hv42
        replace hv42 := Option.some.inj (hv42.symm.trans HX413_0.out)
        subst hv42
        clear hcc42 hcl42
        replace ge42_0 := (show Kd.R (Kd.int .i64) 3 _ _ _ _ (rd_L1 ii (rd l1 dx)) from ge42_0)
        have HP42 := Kd.R_putg ge42_0 ((rd l1 (ji30)) : Int) (wrap64 ((rd (rd_L1 aa (rd l1 dx)) (rd l1 (ji30))) - fb))
        rw [← ev8.out] at HP42
        have HS42 := hbk42 HP42.2 (fun k_ e_ => by injection e_ with e_; subst e_; exact ge42_0.1 _ rfl) (x' := cg3) (Kd.M_row HP42.1)
        rw [← ev9.out] at HS42
        have HQ42 := Aside0.mk HS42
        clear HP42 HS42 hbk42 hok42
        refine start_ (n := 18) (S := fun w' => w'.cell? ⟨nu, 0, none⟩ = some (ah7) ∧ w'.cell? ⟨nu, 1, none⟩ = some (.slice (some cg8) ii.length sh) ∧ w'.cell? ⟨l3, 0, none⟩ = some (.slice af ab.length ae) ∧ w'.cell? ⟨l3, 1, none⟩ = some (.slice (some dh5) aa.length ag) ∧ w'.cell? (cg8.add ((rd l1 dx)).toNat) = some (.slice (some ⟨ah2, 0, none⟩) (rd_L1 ii (rd l1 dx)).length ew4) ∧ w'.cell? (dh5.add ((rd l1 dx)).toNat) = some (.slice (some dh9) (rd_L1 aa (rd l1 dx)).length ew7) ∧ w'.cell? (dh9.add ((rd l1 (ji30))).toNat) = some (.int .i64 (rd (rd_L1 aa (rd l1 dx)) (rd l1 (ji30))))) (ds := [17]) (tl_ 18 0) (g1_) rfl (g1_) ⟨(blk_cell jw.out 0).trans rfl, (blk_cell jw.out 1).trans rfl, (blk_cell fy.out 0).trans rfl, (blk_cell fy.out 1).trans rfl, bl9, ((cl_ HB ew9).trans rfl), ((cl_ HB ex1).trans rfl)⟩ (fun hHeld => ?_); refine with_tabW spec_l3Struck.tab12 spec_l3Struck.bits12 (fun HT_ HW_ => ?_)
        generalize wr.drew = w40 at pn kh fy h7 jw HB GG39 ab4 HQ42 ew6 dh8 HX413_0 hf39_0 ce2 bl9 bm0 bm1 hHeld ⊢
        refine pw_ 0 57 (tl_ 18 1) rfl rfl ?_
        refine pw_ 2 59 (tl_ 18 5) rfl rfl ?_
        refine pw_ 5 62 (tl_ 18 37) rfl rfl ?_
        refine pw_ 6 63 (tl_ 18 101) rfl rfl ?_
        refine pw_ 8 65 (tl_ 18 357) rfl rfl ?_
        refine pw_ 11 68 (tl_ 18 2405) rfl rfl ?_
        refine pw_ 14 71 (tl_ 18 18789) rfl rfl ?_
        refine tk5_ 1 58 (tl_ 18 18791) rfl rfl hHeld ?_
        refine pw_ 3 60 (tl_ 18 18799) rfl rfl ?_
        refine tk5_ 4 61 (tl_ 18 18815) rfl rfl hHeld ?_
        refine tk5_ 7 64 (tl_ 18 18943) rfl rfl hHeld ?_
        refine pw_ 9 66 (tl_ 18 19455) rfl rfl ?_
        refine tk5_ 10 67 (tl_ 18 20479) rfl rfl hHeld ?_
        refine pw_ 12 69 (tl_ 18 24575) rfl rfl ?_
        refine tk5_ 13 70 (tl_ 18 32767) rfl rfl hHeld ?_
        refine pw_ 15 72 (tl_ 18 65535) rfl rfl ?_
        refine pw_ 16 73 (tl_ 18 131071) rfl rfl ?_
        refine last_ (i := 17) (N := none) (tl_ 18 262143) rfl rfl (one_of HT_.out (g1_)) (by decide) (fun K hK => ?_)
        refine skip_ (w1 := ?_) (by rfl) rfl ?_ ?_
        rotate_left
        ·go_simp
         rfl
        refine hK.out _ _ ?_
        clear hK K
        refine done_ (done_of HT_.out (g1_)) ?_
        try go_wp2
        go_roundg k2
        case measure => have := HK1.out; have := HK2.out; omega
        case rel => exact ⟨(wrap64 (dx + 1)), (ri), (dh0), (ah7), (.slice (some cg8) ii.length sh), (g2_), H', ⟨g19_⟩, ⟨by (with_reducible repeat (first | apply Kd.R_alloc | apply Kd.R_drewN | apply Kd.R_drew)); exact Kd.R_mono (Kd.R_far (p := ⟨ah2, ((rd l1 (ji30)) : Int).toNat, none⟩) (Kd.R_far1 pn.out rfl ((ab4.out.1 _ rfl).1)) (fun _ hk => hk.2) (.int .i64 (wrap64 ((rd (rd_L1 aa (rd l1 dx)) (rd l1 (ji30))) - fb)))) (fun _ hk => trivial)⟩, ⟨uf3_ HQ42⟩, ⟨by (with_reducible repeat (first | refine blk_drewN ?_ _ | refine blk_drew ?_ | refine blk_alloc ?_ _)); refine blk_far ?_ (by have h_ := Kd.R_ne ab4.out fy.out (by decide); intro e_; exact h_ (g7_)) _; exact uf0_ fy⟩, ⟨by (with_reducible repeat (first | refine blk_drewN ?_ _ | refine blk_drew ?_ | refine blk_alloc ?_ _)); refine blk_far ?_ (by have h_ := Kd.R_ne ab4.out h7.out (by decide); intro e_; exact h_ (g7_)) _; exact uf0_ h7⟩, ⟨by (with_reducible repeat (first | refine blk_drewN ?_ _ | refine blk_drew ?_ | refine blk_alloc ?_ _)); refine blk_far ?_ (by have h_ := Kd.R_ne ab4.out jw.out (by decide); intro e_; exact h_ (g7_)) _; exact uf0_ jw⟩, ⟨pt⟩⟩
      ·rw [if_neg ec] at H
       have ba6 := decide_eq_false ec
       clear ec
       simp only [Option.some.injEq, Prod.mk.injEq] at H
       obtain ⟨rfl, rfl⟩ := H
       have de1 := dg3.out
       have de2 := bk7.out
       have eq8 := dg4.out
       have eq9 := bk8.out
       obtain ⟨er0, er1, er2, er3⟩ := blk2_ jw
       obtain ⟨uh, ui, ce3⟩ := Kd.R_slice pn.out
       subst ce3
       have er4 := dg2.out
       have er5 := dg1.out
       obtain ⟨er6, er7, er8, er9⟩ := blk2_ h7
       obtain ⟨aa9, ab0, ce4⟩ := Kd.S_slice kh.out
       subst ce4
       go_wp2
       refine bodyPost_ret (results_cell_row rfl _ _ mo 25 #[.slice uh ri.length ui, .slice aa9 ii.length ab0] (0, 0) _ rfl (by (with_reducible repeat (first | refine blk_drewN ?_ _ | refine blk_drew ?_ | refine blk_alloc ?_ _)); refine blk_put (cs := #[.slice uh ri.length ui, .slice none 0 0]) ?_ 1 _ rfl; refine blk_put (cs := #[.slice none 0 0, .slice none 0 0]) ?_ 0 _ rfl; exact uf0_ h7) Try.underlying25 rfl (g1_)) rfl ?_
       exact ⟨_, _, g4_, by (with_reducible repeat (first | apply Kd.R_alloc | apply Kd.R_drewN | apply Kd.R_drew)); exact Kd.R_mono (Kd.R_far (p := ⟨mo, 1, none⟩) (Kd.R_far (p := ⟨mo, 0, none⟩) (Kd.R_types pn.out h7.out (by decide)) (fun _ hk => hk.2) (.slice uh ri.length ui)) (fun _ hk => hk.2) (.slice aa9 ii.length ab0)) (fun _ hk => trivial), by (with_reducible repeat (first | apply Kd.S_alloc | apply Kd.S_drewN | apply Kd.S_drew)); exact Kd.S_mono (Kd.S_far (p := ⟨mo, 1, none⟩) (Kd.S_far (p := ⟨mo, 0, none⟩) (Kd.S_types kh.out h7.out (by decide)) (fun _ hk => hk.2) (.slice uh ri.length ui)) (fun _ hk => hk.2) (.slice aa9 ii.length ab0)) (fun _ hk => hk.1), pt⟩
def spec_WithoutCircles.l0 : Nat → Int → List Int → List (List Int) → Option (List Int × (List (List Int)) × Int)
 | 0, _, _, _ => none
 | k + 1, x5, cj9, ck0 => (spec_CirclesOf.f k cj9 ck0).bind fun ji => (if (ji.length : Int) = 0 then (some (cj9, ck0, x5)) else (if 0 < (ji.length : Int) then ((spec_l3Struck.f k cj9 ck0 (rd_L1 ji 0)).bind fun bt301 => (spec_WithoutCircles.l0 k (wrap64 (x5 + 1)) bt301.1 bt301.2)) else (none)))
def spec_WithoutCircles.f (k : Nat) (ab : List Int) (aa : List (List Int)) : Option (List Int × (List (List Int)) × Int) := (spec_BookOk.f k ab aa).bind fun av5 => (if av5 = true then ((spec_l2Copy.f k ab aa).bind fun bt290 => (spec_WithoutCircles.l0 k 0 bt290.1 bt290.2)) else (some (([] : List Int), ([] : List (List Int)), (-1))))
theorem spec_WithoutCircles.mq {p : Prop} (h : p := by
 repeat' first
 | (with_reducible exact ih0 _ _ _)
 | (with_reducible exact spec_BookOk.mono _ _ _)
 | (with_reducible exact spec_CirclesOf.mono _ _ _)
 | (with_reducible exact spec_l2Copy.mono _ _ _)
 | (with_reducible exact spec_l3Struck.mono _ _ _ _)
 | (with_reducible exact LeO.refl _)
 | (with_reducible exact LeO.none _)
 | (with_reducible refine LeO.ite ?_ ?_)
 | (with_reducible refine LeO.bind ?_ (fun _ => ?_))
 | exact ih0 _ _ _
 | exact spec_BookOk.mono _ _ _
 | exact spec_CirclesOf.mono _ _ _
 | exact spec_l2Copy.mono _ _ _
 | exact spec_l3Struck.mono _ _ _ _
 | exact LeO.none _
 | refine LeO.ite ?_ ?_
 | refine LeO.bind ?_ (fun _ => ?_)) : p := h
theorem spec_WithoutCircles.mono_l : ∀ k, (∀ y0 y1 y2, LeO (spec_WithoutCircles.l0 k y0 y1 y2) (spec_WithoutCircles.l0 (k + 1) y0 y1 y2))
 | 0 => fun _ _ _ r h => by simp [spec_WithoutCircles.l0] at h
 | k + 1 => by
  have ih0 := spec_WithoutCircles.mono_l k
  ·intro y0 y1 y2
   unfold spec_WithoutCircles.l0
   exact spec_WithoutCircles.mq
theorem spec_WithoutCircles.mono : ∀ a0 a1 k, LeO (spec_WithoutCircles.f k a0 a1) (spec_WithoutCircles.f (k + 1) a0 a1) := by
 intro a0 a1 k
 have ih0 := spec_WithoutCircles.mono_l k
 unfold spec_WithoutCircles.f
 exact spec_WithoutCircles.mq
theorem spec_WithoutCircles.calls0_q0 {p : Prop} (h : p := by repeat (first | (with_reducible first | exact HB.out | apply below_alloc | apply pw_below_drewN | apply below_drew1 | refine below_set ?_ ag0.out | refine below_set ?_ dm0.out | refine below_set ?_ fd1.out) | exact HB.out)) : p := h
set_option maxHeartbeats 8000000 in
set_option maxRecDepth 100000 in
theorem spec_WithoutCircles.calls0 (k : Nat) (af : Option Addr) (ae : Nat) (ab : List Int) (ah : Option Addr) (ag : Nat) (aa : List (List Int)) (r1 : List Int) (r2 : List (List Int)) (r3 : Int) (w : World) (cg : Kd.C (Kd.int .i64) w af ab.length ab) (ck : ab.length ≤ ae) (ch : Kd.C (Kd.slice 3 (Kd.int .i64)) w ah aa.length aa) (cl : aa.length ≤ ag) (h : spec_WithoutCircles.f k ab aa = some (r1, r2, r3)) :
  Calls Try.prog 53 #[.agg #[.slice af ab.length ae, .slice ah aa.length ag]] w fun e w' => ∃ v0_ v1_ : Value, e = .returned (.tuple #[.agg #[v0_, v1_], .int .i64 r3]) ∧ Kd.R (Kd.int .i64) 3 w' w.heap.size (fun k_ => (w.heap.size ≤ k_)) v0_ r1 ∧ Kd.S (Kd.slice 3 (Kd.int .i64)) 22 w' w.heap.size (fun k_ => (w.heap.size ≤ k_) ∧ some k_ ≠ (v0_ : Value).ownBlock) v1_ r2 ∧ Below w.heap.size w w' := by
 have hu25 := Try.underlying25
 have b7 := Aside0.mk cg
 have cn := Aside0.mk ck
 clear cg ck
 have bz := Aside0.mk ch
 have cr := Aside0.mk cl
 clear ch cl
 have HB := Aside0.mk (Below.refl w.heap.size w)
 have H : ((spec_BookOk.f k ab aa).bind fun av5 => (if av5 = true then ((spec_l2Copy.f k ab aa).bind fun bt290 => (spec_WithoutCircles.l0 k 0 bt290.1 bt290.2)) else (some (([] : List Int), ([] : List (List Int)), (-1))))) = some (r1, r2, r3) := h
 clear h
 obtain ⟨av5, A2, H⟩ := bind_ H
 by_cases c3 : av5 = true
 ·subst c3
  replace H := ifp_ H
  replace H := Option.bind_eq_some_iff.mp H
  obtain ⟨⟨ai4, av6⟩, lq, H⟩ := H
  try dsimp only at H
  have A4 := Aside0.mk lq
  clear lq
  have H' := Aside0.mk H
  clear H
  go_enter Try.func53, Try.ntmps53
  go_wp2_with (first | ((with_reducible refine gate_dst (N := 1) rfl ?_); refine bx_ (N := 1) #[.slice af ab.length ae, .slice ah aa.length ag] 25 ?_; intro ax hg w5 hbox hb; have a8 := Aside0.mk (hbox); have bg2 := Aside0.mk ((g21_ : w.heap.size ≤ ax)); have ag0 := Aside0.mk ((g21_ : w.heap.size ≤ ax)); replace HB := Aside0.mk (below_step (spec_WithoutCircles.calls0_q0) hb); clear hb hbox hg) | ((with_reducible refine gate_dst (N := 2) rfl ?_); refine bx_ (N := 2) #[.slice none 0 0, .slice none 0 0] 25 ?_; intro fi hg w6 hbox hb; have e8 := Aside0.mk (hbox); have fd2 := Aside0.mk ((g21_ : w.heap.size ≤ fi)); have dm0 := Aside0.mk ((g21_ : w.heap.size ≤ fi)); replace HB := Aside0.mk (below_step (spec_WithoutCircles.calls0_q0) hb); have bo4 := Aside0.mk ((g89_ : ax ≠ fi)); have bo5 := Aside0.mk ((g90_ : fi ≠ ax)); replace a8 := bb_ a8 hb; clear hb hbox hg; have cb9 := bo4.out; have cc0 := bo5.out; obtain ⟨ko, kr, ks, kt⟩ := blk2_ a8) | ((with_reducible refine gate_callee (f := 42) rfl ?_); refine goesL_ (some 8) rfl rfl Try.func42 k_ rfl #[.agg #[.slice af ab.length ae, .slice ah aa.length ag]] rfl (g3_) ?_; (with_reducible refine (spec_BookOk.calls k _ _ ab _ _ aa true _ ?side1 ?side2 ?side3 ?side4 A2.out).mono ?_); (case side1 => exact uf2_ b7); (case side2 => exact cn.out); (case side3 => exact uf2_ bz); (case side4 => exact cr.out); rintro e w9 ⟨rfl, hb⟩; refine ⟨_, rfl, ?_⟩; replace a8 := bb_ a8 hb; replace e8 := bb_ e8 hb; replace HB := Aside0.mk (below_step (spec_WithoutCircles.calls0_q0) hb); (try clear hb); (try clear hk hi); obtain ⟨m7, m8, m9, na⟩ := blk2_ a8) | ((with_reducible refine gate_callee (f := 80) rfl ?_); refine goesL_ (some 12) rfl rfl Try.func80 k_ rfl #[.agg #[.slice af ab.length ae, .slice ah aa.length ag]] rfl (g3_) ?_; (with_reducible refine (spec_l2Copy.calls k _ _ ab _ _ aa ai4 av6 _ ?side1 ?side2 ?side3 ?side4 A4.out).mono ?_); (case side1 => exact uf2_ b7); (case side2 => exact cn.out); (case side3 => exact uf2_ bz); (case side4 => exact cr.out); rintro e w11 ⟨fd3, gk2, rfl, ac, b6, hb⟩; refine ⟨_, rfl, ?_⟩; have bo6 := Aside0.mk (Kd.R_lower (Kd.R_newM (M := fun k_ => (w.heap.size ≤ k_)) ac (below_size (spec_WithoutCircles.calls0_q0)) (fun k_ h_ => h_)) (below_size (spec_WithoutCircles.calls0_q0))); have bo7 := Aside0.mk (Kd.S_lower (Kd.S_mono (ok' := fun k_ => (w.heap.size ≤ k_) ∧ some k_ ≠ (fd3 : Value).ownBlock ∧ k_ ≠ ax ∧ k_ ≠ fi) (id (Kd.S_bound b6)) (fun k_ hk_ => ⟨(Nat.le_trans (below_size (spec_WithoutCircles.calls0_q0)) hk_.2.1), hk_.1, (Kd.freshB (g := ax) (o := .cells #[.slice af ab.length ae, .slice ah aa.length ag] 25 (0, 0)) (uf0_ a8) k_ hk_.2.1), (Kd.freshB (g := fi) (o := .cells #[.slice none 0 0, .slice none 0 0] 25 (0, 0)) (uf0_ e8) k_ hk_.2.1)⟩)) (below_size (spec_WithoutCircles.calls0_q0))); replace a8 := bb_ a8 hb; replace e8 := bb_ e8 hb; replace HB := Aside0.mk (below_step (spec_WithoutCircles.calls0_q0) hb); (try clear hb); (try clear hk hi); (try clear ac); (try clear b6)) | ((with_reducible refine gate_dst (N := 4) rfl ?_); refine bx_ (N := 4) #[.slice none 0 0, .slice none 0 0] 25 ?_; intro fq hg o4 hbox hb; replace bo6 := Aside0.mk (Kd.R_below (uf1_ bo6) hb); replace bo7 := Aside0.mk (Kd.S_below (Kd.S_elderB (uf3_ bo7) fq (Nat.le_of_eq hg.symm)) hb); have fs := Aside0.mk (hbox); have gk3 := Aside0.mk ((g21_ : w.heap.size ≤ fq)); have fd1 := Aside0.mk ((g21_ : w.heap.size ≤ fq)); replace HB := Aside0.mk (below_step (spec_WithoutCircles.calls0_q0) hb); have us := Aside0.mk ((g89_ : ax ≠ fq)); have av7 := Aside0.mk ((g90_ : fq ≠ ax)); replace a8 := bb_ a8 hb; have ut := Aside0.mk ((by rw [hg]; exact Nat.ne_of_lt (blk_lt (g := fi) (o := .cells #[.slice none 0 0, .slice none 0 0] 25 (0, 0)) (uf0_ e8)) : fi ≠ fq)); have av8 := Aside0.mk ((by rw [hg]; exact Nat.ne_of_gt (blk_lt (g := fi) (o := .cells #[.slice none 0 0, .slice none 0 0] 25 (0, 0)) (uf0_ e8)) : fq ≠ fi)); replace e8 := bb_ e8 hb; clear hb hbox hg; obtain ⟨xg, xh, cj3⟩ := Kd.R_slice bo6.out; subst cj3; have ea3 := av7.out; have ea4 := us.out; have bm9 := av8.out; have bn0 := ut.out; obtain ⟨mu, mv, mw, my⟩ := blk2_ fs; obtain ⟨ba, a5, ku⟩ := Kd.S_slice bo7.out; subst ku))
  go_loopg [5] k (fun kq v5 w' => ∃ (bs : Int) (im : List Int) (io : List (List Int)) (bo8 : Value) (ck1 : Value), v5 = .int .i64 bs ∧ Aside0 (spec_WithoutCircles.l0 kq bs im io = some (r1, r2, r3)) ∧ Aside0 (kq ≤ k) ∧ Aside0 (Kd.R (Kd.int .i64) 3 w' w.heap.size (fun k_ => (w.heap.size ≤ k_)) bo8 im) ∧ Aside0 (Kd.S (Kd.slice 3 (Kd.int .i64)) 22 w' w.heap.size (fun k_ => (w.heap.size ≤ k_) ∧ some k_ ≠ (bo8 : Value).ownBlock ∧ k_ ≠ ax ∧ k_ ≠ fi ∧ k_ ≠ fq) ck1 io) ∧ Aside0 (w'.heap[ax]? = some (.cells #[(.slice af ab.length ae), (.slice ah aa.length ag)] 25 (0, 0))) ∧ Aside0 (w'.heap[fi]? = some (.cells #[(.slice none 0 0), (.slice none 0 0)] 25 (0, 0))) ∧ Aside0 (w'.heap[fq]? = some (.cells #[bo8, ck1] 25 (0, 0))) ∧ Aside0 (Below w.heap.size w w'))
  case atStart => exact ⟨(0), (ai4), (av6), (.slice xg ai4.length xh), (.slice ba av6.length a5), (g2_), H', ⟨Nat.le_refl _⟩, ⟨by (with_reducible repeat (first | apply Kd.R_alloc | apply Kd.R_drewN | apply Kd.R_drew)); exact Kd.R_mono (Kd.R_far (p := ⟨fq, 1, none⟩) (Kd.R_far (p := ⟨fq, 0, none⟩) (Kd.R_types bo6.out fs.out (by decide)) (fun _ hk => hk.2) (.slice xg ai4.length xh)) (fun _ hk => hk.2) (.slice ba av6.length a5)) (fun _ hk => hk.1.1)⟩, ⟨by (with_reducible repeat (first | apply Kd.S_alloc | apply Kd.S_drewN | apply Kd.S_drew)); exact Kd.S_mono (Kd.S_far (p := ⟨fq, 1, none⟩) (Kd.S_far (p := ⟨fq, 0, none⟩) (Kd.S_mono bo7.out (fun k_ hk => (⟨hk, hk.2⟩ : _ ∧ k_ ≠ fq))) (fun _ hk => hk.2) (.slice xg ai4.length xh)) (fun _ hk => hk.2) (.slice ba av6.length a5)) (fun _ hk => ⟨hk.1.1.1, ⟨hk.1.1.2.1, ⟨hk.1.1.2.2.1, ⟨hk.1.1.2.2.2, hk.1.2⟩⟩⟩⟩)⟩, ⟨by (with_reducible repeat (first | refine blk_drewN ?_ _ | refine blk_drew ?_ | refine blk_alloc ?_ _)); refine blk_far ?_ us.out _; refine blk_far ?_ us.out _; exact uf0_ a8⟩, ⟨by (with_reducible repeat (first | refine blk_drewN ?_ _ | refine blk_drew ?_ | refine blk_alloc ?_ _)); refine blk_far ?_ ut.out _; refine blk_far ?_ ut.out _; exact uf0_ e8⟩, ⟨by (with_reducible repeat (first | refine blk_drewN ?_ _ | refine blk_drew ?_ | refine blk_alloc ?_ _)); refine blk_put (cs := #[.slice xg ai4.length xh, .slice none 0 0]) ?_ 1 _ rfl; refine blk_put (cs := #[.slice none 0 0, .slice none 0 0]) ?_ 0 _ rfl; exact uf0_ fs⟩, ⟨spec_WithoutCircles.calls0_q0⟩⟩
  case round =>
   clear H'
   try clear c1
   try clear p2
   try clear c3
   try clear c4
   try clear c5
   try clear c7
   try clear c8
   try clear f2
   try clear cb
   try clear m7
   try clear m8
   try clear mu
   try clear mv
   try clear ko
   try clear kr
   try clear m9
   try clear na
   try clear mw
   try clear my
   try clear ks
   try clear kt
   obtain ⟨bs, im, io, bo8, ck1, rfl, HA, HK1, ip, i4, a8, e8, fs, HB⟩ := hrel
   cases gk with
   | zero => exact absurd HA.out (by simp [spec_WithoutCircles.l0])
   | succ k1 =>
    have H := HA.out
    clear HA
    simp only [spec_WithoutCircles.l0] at H
    obtain ⟨ji, A18, H⟩ := bind_ H
    by_cases dr : (ji.length : Int) = 0
    ·rw [if_pos dr] at H
     have rq : ((ji.length : Int) == 0) = true := beq_iff_eq.mpr dr
     have xp : ((ji.length : Int) != 0) = false := bne_eq_false_iff_eq.mpr dr
     clear dr
     simp only [Option.some.injEq, Prod.mk.injEq] at H
     obtain ⟨rfl, rfl, rfl⟩ := H
     have et3 := av7.out
     have et4 := us.out
     have gk4 := av8.out
     have gk5 := ut.out
     obtain ⟨xr, xt, xu, xv⟩ := blk2_ fs
     obtain ⟨wx, wy, ce8⟩ := Kd.R_slice ip.out
     subst ce8
     obtain ⟨wg, cd, ca4⟩ := Kd.S_slice i4.out
     subst ca4
     go_wp2_with (first | ((with_reducible refine gate_callee (f := 95) rfl ?_); refine goesL_ (some 14) rfl rfl Try.func95 k_ rfl #[.agg #[.slice wx im.length wy, .slice wg io.length cd]] rfl (g3_) ?_; (with_reducible refine (spec_CirclesOf.calls k1 _ _ im _ _ io ji _ ?side1 ?side2 ?side3 ?side4 A18.out).mono ?_); (case side1 => repeat (first | exact (Kd.R_reads' ip.out).2.2 | (with_reducible refine Kd.C_alloc ?_ _) | (with_reducible refine Kd.C_drewN ?_ _) | (with_reducible refine Kd.C_drew ?_))); (case side2 => exact (Kd.R_reads' ip.out).2.1); (case side3 => repeat (first | exact (Kd.S_reads' i4.out).2.2 | (with_reducible refine Kd.C_alloc ?_ _) | (with_reducible refine Kd.C_drewN ?_ _) | (with_reducible refine Kd.C_drew ?_))); (case side4 => exact (Kd.S_reads' i4.out).2.1); rintro e pa ⟨fd4, rfl, ac, hb⟩; refine ⟨_, rfl, ?_⟩; have pp := Aside0.mk (Kd.N_lower (Kd.N_mono (ok' := fun k_ => (w.heap.size ≤ k_) ∧ some k_ ≠ (.slice wx im.length wy : Value).ownBlock ∧ some k_ ≠ (.slice wg io.length cd : Value).ownBlock ∧ k_ ≠ ax ∧ k_ ≠ fi ∧ k_ ≠ fq) ac (fun k_ hk_ => ⟨(Nat.le_trans (below_size (spec_WithoutCircles.calls0_q0)) hk_), (Kd.fresh' (Kd.R_lt (uf1_ ip)) k_ hk_), (Kd.fresh' (Kd.S_lt (uf3_ i4)) k_ hk_), (Kd.freshB (g := ax) (o := .cells #[.slice af ab.length ae, .slice ah aa.length ag] 25 (0, 0)) (uf0_ a8) k_ hk_), (Kd.freshB (g := fi) (o := .cells #[.slice none 0 0, .slice none 0 0] 25 (0, 0)) (uf0_ e8) k_ hk_), (Kd.freshB (g := fq) (o := .cells #[.slice wx im.length wy, .slice wg io.length cd] 25 (0, 0)) (uf0_ fs) k_ hk_)⟩)) (below_size (spec_WithoutCircles.calls0_q0))); replace ip := Aside0.mk (Kd.R_below (uf1_ ip) hb); replace i4 := Aside0.mk (Kd.S_elder' (uf3_ i4) (Kd.N_base (g6_)) hb); replace a8 := bb_ a8 hb; replace e8 := bb_ e8 hb; replace fs := bb_ fs hb; replace HB := Aside0.mk (below_step (spec_WithoutCircles.calls0_q0) hb); (try clear hb); (try clear hk hi); (try clear ac); obtain ⟨ar2, ar3, ag7⟩ := Kd.N_slice pp.out; subst ag7; obtain ⟨ex8, ex9, ey0, ey1⟩ := blk2_ fs; have ci5 := bo5.out; have ci6 := bo4.out; obtain ⟨eg9, eh0, eh1, eh2⟩ := blk2_ e8))
     refine bodyPost_ret (results_ct rfl _ _ fi 25 #[.slice wx im.length wy, .slice wg io.length cd] (0, 0) _ rfl (by (with_reducible repeat (first | refine blk_drewN ?_ _ | refine blk_drew ?_ | refine blk_alloc ?_ _)); refine blk_put (cs := #[.slice wx im.length wy, .slice none 0 0]) ?_ 1 _ rfl; refine blk_put (cs := #[.slice none 0 0, .slice none 0 0]) ?_ 0 _ rfl; exact uf0_ e8) Try.underlying25 rfl (g1_)) rfl ?_
     exact ⟨_, _, g4_, by (with_reducible repeat (first | apply Kd.R_alloc | apply Kd.R_drewN | apply Kd.R_drew)); exact Kd.R_mono (Kd.R_far (p := ⟨fi, 1, none⟩) (Kd.R_far (p := ⟨fi, 0, none⟩) (Kd.R_types ip.out e8.out (by decide)) (fun _ hk => hk.2) (.slice wx im.length wy)) (fun _ hk => hk.2) (.slice wg io.length cd)) (fun _ hk => hk.1), by (with_reducible repeat (first | apply Kd.S_alloc | apply Kd.S_drewN | apply Kd.S_drew)); exact Kd.S_mono (Kd.S_far (p := ⟨fi, 1, none⟩) (Kd.S_far (p := ⟨fi, 0, none⟩) (Kd.S_mono i4.out (fun k_ hk => (⟨hk, hk.1.2.2.2.1⟩ : _ ∧ k_ ≠ fi))) (fun _ hk => hk.2) (.slice wx im.length wy)) (fun _ hk => hk.2) (.slice wg io.length cd)) (fun _ hk => ⟨hk.1.1.1, hk.1.1.2.1⟩), spec_WithoutCircles.calls0_q0⟩
    ·rw [if_neg dr] at H
     have rq : ((ji.length : Int) == 0) = false := beq_eq_false_iff_ne.mpr dr
     have xp : ((ji.length : Int) != 0) = true := bne_iff_ne.mpr dr
     have ad0 : ¬ (ji = []) := fun h_ => dr (g26_)
     obtain ⟨od, H⟩ := pos_ H
     have ao8 := decide_eq_true od
     have by1 : decide (0 < ji.length) = true := decide_eq_true (by omega)
     clear od
     replace H := Option.bind_eq_some_iff.mp H
     obtain ⟨⟨ai5, av9⟩, dm1, H⟩ := H
     try dsimp only at H
     have wi := Aside0.mk dm1
     clear dm1
     have H' := Aside0.mk H
     clear H
     have en3 := av7.out
     have en4 := us.out
     have et9 := av8.out
     have eu0 := ut.out
     obtain ⟨eu1, eu2, eu3, eu4⟩ := blk2_ fs
     obtain ⟨si, rf, ce9⟩ := Kd.R_slice ip.out
     subst ce9
     obtain ⟨ns, nt, cg0⟩ := Kd.S_slice i4.out
     subst cg0
     try go_wp2_with (first | ((with_reducible refine gate_callee (f := 95) rfl ?_); refine goesL_ (some 14) rfl rfl Try.func95 k_ rfl #[.agg #[.slice si im.length rf, .slice ns io.length nt]] rfl (g3_) ?_; (with_reducible refine (spec_CirclesOf.calls k1 _ _ im _ _ io ji _ ?side1 ?side2 ?side3 ?side4 A18.out).mono ?_); (case side1 => repeat (first | exact (Kd.R_reads' ip.out).2.2 | (with_reducible refine Kd.C_alloc ?_ _) | (with_reducible refine Kd.C_drewN ?_ _) | (with_reducible refine Kd.C_drew ?_))); (case side2 => exact (Kd.R_reads' ip.out).2.1); (case side3 => repeat (first | exact (Kd.S_reads' i4.out).2.2 | (with_reducible refine Kd.C_alloc ?_ _) | (with_reducible refine Kd.C_drewN ?_ _) | (with_reducible refine Kd.C_drew ?_))); (case side4 => exact (Kd.S_reads' i4.out).2.1); rintro e w37 ⟨fd4, rfl, ac, hb⟩; refine ⟨_, rfl, ?_⟩; have pp := Aside0.mk (Kd.N_lower (Kd.N_mono (ok' := fun k_ => (w.heap.size ≤ k_) ∧ some k_ ≠ (.slice si im.length rf : Value).ownBlock ∧ some k_ ≠ (.slice ns io.length nt : Value).ownBlock ∧ k_ ≠ ax ∧ k_ ≠ fi ∧ k_ ≠ fq) ac (fun k_ hk_ => ⟨(Nat.le_trans (below_size (spec_WithoutCircles.calls0_q0)) hk_), (Kd.fresh' (Kd.R_lt (uf1_ ip)) k_ hk_), (Kd.fresh' (Kd.S_lt (uf3_ i4)) k_ hk_), (Kd.freshB (g := ax) (o := .cells #[.slice af ab.length ae, .slice ah aa.length ag] 25 (0, 0)) (uf0_ a8) k_ hk_), (Kd.freshB (g := fi) (o := .cells #[.slice none 0 0, .slice none 0 0] 25 (0, 0)) (uf0_ e8) k_ hk_), (Kd.freshB (g := fq) (o := .cells #[.slice si im.length rf, .slice ns io.length nt] 25 (0, 0)) (uf0_ fs) k_ hk_)⟩)) (below_size (spec_WithoutCircles.calls0_q0))); replace ip := Aside0.mk (Kd.R_below (uf1_ ip) hb); replace i4 := Aside0.mk (Kd.S_elder' (uf3_ i4) (Kd.N_base (g6_)) hb); replace a8 := bb_ a8 hb; replace e8 := bb_ e8 hb; replace fs := bb_ fs hb; replace HB := Aside0.mk (below_step (spec_WithoutCircles.calls0_q0) hb); (try clear hb); (try clear hk hi); (try clear ac); obtain ⟨as4, ah4, bj6⟩ := Kd.N_slice pp.out; subst bj6))
     replace ip := Aside0.mk (Kd.R_drew ip.out)
     replace i4 := Aside0.mk (Kd.S_drew i4.out)
     replace pp := Aside0.mk (Kd.N_drew pp.out)
     replace a8 := Aside0.mk (blk_drew a8.out)
     replace e8 := Aside0.mk (blk_drew e8.out)
     replace fs := Aside0.mk (blk_drew fs.out)
     replace HB := Aside0.mk (below_drew1 HB.out)
     have bo9 : 0 ≤ (0 : Int) := (by omega)
     have bp0 : 0 < (ji.length : Int) := of_decide_eq_true (g0_)
     obtain ⟨dm2, dm3, dm4, fd5, aw0, dm5, dm6⟩ := at_L1 (Kd.N_reads' pp.out).2.2 0 bo9 bp0
     cases fd5
     obtain ⟨ce300, hce300, hMe300, hcc300⟩ := Kd.N_get pp.out [] 0 bo9 (by first | exact bp0 | exact of_decide_eq_true (g0_) | (have e_ := (Kd.N_reads' pp.out).1; omega))
     obtain ⟨ua300_0, uc300_0, rfl, ul300_0, ge300_0⟩ := Kd.FK_slice_open hMe300
     have hv300_0 := hcc300 0 _ rfl
     rw [Nat.add_zero, show ((Kd.slice 3 (Kd.int .i64))).sz = 1 from rfl, Nat.mul_one] at hv300_0
     replace hv300_0 := Option.some.inj (hv300_0.symm.trans aw0)
     injection hv300_0 with hva_ hvn_ hvc_
     rw [hva_] at ge300_0
     rw [hvc_] at ul300_0
     have ck2 := Aside0.mk (show Kd.V (Kd.int .i64) 3 _ w.heap.size _ _ (rd_L1 ji 0) from Kd.V_mk ul300_0 ge300_0)
     clear hva_ hvn_ hvc_ ge300_0 ul300_0
     clear hcc300 hce300
     have qi300 : (0 < ji.length) = True := eq_true (by omega)
     (try rw [show ((0 : Int)).toNat = 0 from rfl] at aw0)
     (try rw [Addr.add_zero'] at aw0)
     have ai6 := Aside0.mk dm6
     have fd6 := Aside0.mk dm5
     clear dm6 dm5
     replace bo9 := eq_true bo9
     replace bp0 := eq_true bp0
     refine start_ (n := 6) (S := fun w' => w'.cell? ⟨fq, 0, none⟩ = some (.slice si im.length rf) ∧ w'.cell? ⟨fq, 1, none⟩ = some (.slice ns io.length nt) ∧ w'.cell? dm2 = some (.slice dm3 (rd_L1 ji 0).length dm4)) (ds := [5]) (tl_ 6 0) (g1_) rfl (g1_) ⟨(blk_cell fs.out 0).trans rfl, (blk_cell fs.out 1).trans rfl, aw0⟩ (fun hHeld => ?_)
     generalize w37.drew = w39 at ip i4 pp a8 e8 fs HB ck2 ai6 aw0 hHeld ⊢
     refine pure_ (i := 1) (N := some 21) (v := ?_) (a' := ?_) (tl_ 6 2) rfl rfl (g1_) (fun _ _ _ h => h) (Or.inl ⟨by rfl, ?_⟩) ?_ ?_
     rotate_left
     ·intro w'
      go_simp
      with_reducible rfl
     rotate_left
     ·simp only [Act.put, List.setIfInBounds_toArray, List.set_cons_zero, List.set_cons_succ, i64_w, i32_w]
      rfl
     refine pure_ (i := 2) (N := some 22) (v := ?_) (a' := ?_) (tl_ 6 6) rfl rfl (g1_) (fun _ _ _ h => h) (Or.inl ⟨by rfl, ?_⟩) ?_ ?_
     rotate_left
     ·intro w'
      go_simp
      with_reducible rfl
     rotate_left
     ·simp only [Act.put, List.setIfInBounds_toArray, List.set_cons_zero, List.set_cons_succ, i64_w, i32_w]
      rfl
     refine take_ (i := 0) (N := some 20) (v := ?_) (a' := ?_) (tl_ 6 7) rfl rfl (g1_) (fun _ _ _ h => h) (Or.inl ⟨by rfl, ?_⟩) hHeld ?_ ?_
     rotate_left
     ·rintro w' ⟨s0, s1, s2⟩
      go_simp
      with_reducible rfl
     rotate_left
     ·simp only [Act.put, List.setIfInBounds_toArray, List.set_cons_zero, List.set_cons_succ, i64_w, i32_w]
      rfl
     refine take_ (i := 3) (N := some 23) (v := ?_) (a' := ?_) (tl_ 6 15) rfl rfl (g1_) (fun _ _ _ h => h) (Or.inl ⟨by rfl, ?_⟩) hHeld ?_ ?_
     rotate_left
     ·rintro w' ⟨s0, s1, s2⟩
      go_simp
      with_reducible rfl
     rotate_left
     ·simp only [Act.put, List.setIfInBounds_toArray, List.set_cons_zero, List.set_cons_succ, i64_w, i32_w]
      rfl
     refine one_ (i := 4) (N := some 24) (tl_ 6 31) rfl rfl (g1_) (by decide) (fun K hK => ?_)
     refine goes_ Try.func98 (g1_) rfl #[.agg #[.slice si im.length rf, .slice ns io.length nt], .slice dm3 (rd_L1 ji 0).length dm4] (by rfl) rfl rfl (g3_) ?_
     with_reducible refine (spec_l3Struck.calls k1 _ _ im _ _ io _ _ (rd_L1 ji 0) ai5 av9 _ ?side1 ?side2 ?side3 ?side4 ?side5 ?side6 wi.out).mono ?_
     (case side1 => repeat (first | exact (Kd.R_reads' ip.out).2.2 | (with_reducible refine Kd.C_alloc ?_ _) | (with_reducible refine Kd.C_drewN ?_ _) | (with_reducible refine Kd.C_drew ?_)))
     (case side2 => exact (Kd.R_reads' ip.out).2.1)
     (case side3 => repeat (first | exact (Kd.S_reads' i4.out).2.2 | (with_reducible refine Kd.C_alloc ?_ _) | (with_reducible refine Kd.C_drewN ?_ _) | (with_reducible refine Kd.C_drew ?_)))
     (case side4 => exact (Kd.S_reads' i4.out).2.1)
     (case side5 => repeat (first | exact (by repeat (first | (with_reducible exact ai6.out) | (with_reducible refine Kd.C_alloc ?_ _) | (with_reducible refine Kd.C_drewN ?_ _) | (with_reducible refine Kd.C_drew ?_) | exact ai6.out)) | (with_reducible refine Kd.C_alloc ?_ _) | (with_reducible refine Kd.C_drewN ?_ _) | (with_reducible refine Kd.C_drew ?_)))
     (case side6 => exact fd6.out)
     rintro e w40 ⟨fd7, gk6, rfl, ac, b6, hb⟩
     have HS2_ := (hb.cell (World.block_lt_of_cell? _ _ (hHeld.2.2))).trans (hHeld.2.2)
     refine ⟨_, rfl, ?_⟩
     replace ck2 := Aside0.mk (Kd.V_mono (Kd.V_told (Kd.V_told (Kd.V_old (uf5_ ck2) hb) (Kd.R_base ac)) (Kd.S_base (by first | exact b6 | exact id b6))) (fun _ h_ => h_.1))
     have dm7 := Aside0.mk (Kd.R_lower (Kd.R_new' (Kd.R_newM (M := fun k_ => (w.heap.size ≤ k_)) ac (below_size (spec_WithoutCircles.calls0_q0)) (fun k_ h_ => h_)) (Kd.R_lt (uf1_ ip))) (below_size (spec_WithoutCircles.calls0_q0)))
     have dm8 := Aside0.mk (Kd.S_lower (Kd.S_mono (ok' := fun k_ => (w.heap.size ≤ k_) ∧ some k_ ≠ (fd7 : Value).ownBlock ∧ some k_ ≠ (.slice si im.length rf : Value).ownBlock ∧ some k_ ≠ (.slice ns io.length nt : Value).ownBlock ∧ some k_ ≠ (.slice (some dm2) ji.length ah4 : Value).ownBlock ∧ k_ ≠ ax ∧ k_ ≠ fi ∧ k_ ≠ fq) (id (Kd.S_bound b6)) (fun k_ hk_ => ⟨(Nat.le_trans (below_size (spec_WithoutCircles.calls0_q0)) hk_.2.1), hk_.1, (Kd.fresh' (Kd.R_lt (uf1_ ip)) k_ hk_.2.1), (Kd.fresh' (Kd.S_lt (uf3_ i4)) k_ hk_.2.1), (Kd.fresh' (Kd.N_lt (uf4_ pp)) k_ hk_.2.1), (Kd.freshB (g := ax) (o := .cells #[.slice af ab.length ae, .slice ah aa.length ag] 25 (0, 0)) (uf0_ a8) k_ hk_.2.1), (Kd.freshB (g := fi) (o := .cells #[.slice none 0 0, .slice none 0 0] 25 (0, 0)) (uf0_ e8) k_ hk_.2.1), (Kd.freshB (g := fq) (o := .cells #[.slice si im.length rf, .slice ns io.length nt] 25 (0, 0)) (uf0_ fs) k_ hk_.2.1)⟩)) (below_size (spec_WithoutCircles.calls0_q0)))
     replace ip := Aside0.mk (Kd.R_elder' (uf1_ ip) (Kd.R_base ac) hb)
     replace i4 := Aside0.mk (Kd.S_mono (Kd.S_told (Kd.S_told (Kd.S_old (uf3_ i4) hb) (Kd.R_base ac)) (Kd.S_base (by first | exact b6 | exact id b6))) (fun _ h_ => h_.1))
     replace pp := Aside0.mk (Kd.N_mono (Kd.N_told (Kd.N_told (Kd.N_old (uf4_ pp) hb) (Kd.R_base ac)) (Kd.S_base (by first | exact b6 | exact id b6))) (fun _ h_ => h_.1))
     replace a8 := bb_ a8 hb
     replace e8 := bb_ e8 hb
     replace fs := bb_ fs hb
     replace ai6 := Aside0.mk (Kd.C_below (by repeat (first | (with_reducible exact ai6.out) | (with_reducible refine Kd.C_alloc ?_ _) | (with_reducible refine Kd.C_drewN ?_ _) | (with_reducible refine Kd.C_drew ?_) | exact ai6.out)) hb)
     replace HB := Aside0.mk (below_step (spec_WithoutCircles.calls0_q0) hb)
     (try clear hb)
     (try clear hk hi)
     (try clear ac)
     (try clear b6)
     obtain ⟨ah1, sh, ww⟩ := Kd.R_slice dm7.out
     (first | subst ww | (injection ww with f1_ f2_ f3_; have f4_ := f1_.symm; have f5_ := f3_.symm; clear f1_ f2_ f3_; subst f4_; subst f5_))
     obtain ⟨ck3, ck4, dm9⟩ := Kd.S_slice dm8.out
     (first | subst dm9 | (injection dm9 with f1_ f2_ f3_; have f4_ := f1_.symm; have f5_ := f3_.symm; clear f1_ f2_ f3_; subst f4_; subst f5_))
     refine hK.out _ _ ⟨(blk_cell fs.out 0).trans rfl, (blk_cell fs.out 1).trans rfl, HS2_⟩ (fun hHeld => ?_)
     clear hK K
     refine nm_ ?_
     refine last_ (i := 5) (N := none) (tl_ 6 63) rfl rfl (g1_) (by decide) (fun K hK => ?_)
     have gk7 : w40.cell? ⟨fq, 0, none⟩ = some (.slice si im.length rf) := (blk_cell fs.out 0).trans rfl
     have gk8 := blk_frozen fs.out 0
     have gk9 := us.out
     have gl0 := ut.out
     have gl1 := av7.out
     have gl2 := av8.out
     have gl3 : w40.cell? ⟨fq, 1, none⟩ = some (.slice ns io.length nt) := (blk_cell fs.out 1).trans rfl
     have gl4 := blk_frozen fs.out 1
     have gl5 := us.out
     have gl6 := ut.out
     have gl7 := av7.out
     have gl8 := av8.out
     refine skip_ (w1 := ?_) (by rfl) rfl ?_ ?_
     rotate_left
     ·go_simp
      rfl
     refine hK.out _ _ ?_
     clear hK K
     refine done_ (g1_) ?_
     try go_wp2
     go_roundg k1
     case measure => have := HK1.out; omega
     case rel => exact ⟨(wrap64 (bs + 1)), (ai5), (av9), (.slice ah1 ai5.length sh), (.slice ck3 av9.length ck4), (g2_), H', ⟨g9_⟩, ⟨by (with_reducible repeat (first | apply Kd.R_alloc | apply Kd.R_drewN | apply Kd.R_drew)); exact Kd.R_mono (Kd.R_far (p := ⟨fq, 1, none⟩) (Kd.R_far (p := ⟨fq, 0, none⟩) (Kd.R_types dm7.out fs.out (by decide)) (fun _ hk => hk.2) (.slice ah1 ai5.length sh)) (fun _ hk => hk.2) (.slice ck3 av9.length ck4)) (fun _ hk => hk.1.1.1)⟩, ⟨by (with_reducible repeat (first | apply Kd.S_alloc | apply Kd.S_drewN | apply Kd.S_drew)); exact Kd.S_mono (Kd.S_far (p := ⟨fq, 1, none⟩) (Kd.S_far (p := ⟨fq, 0, none⟩) (Kd.S_mono dm8.out (fun k_ hk => (⟨hk, hk.2.2.2.2.2.2.2⟩ : _ ∧ k_ ≠ fq))) (fun _ hk => hk.2) (.slice ah1 ai5.length sh)) (fun _ hk => hk.2) (.slice ck3 av9.length ck4)) (fun _ hk => ⟨hk.1.1, ⟨hk.1.2.1, ⟨hk.1.2.2.2.2.2.1, ⟨hk.1.2.2.2.2.2.2.1, hk.1.2.2.2.2.2.2.2⟩⟩⟩⟩)⟩, ⟨by (with_reducible repeat (first | refine blk_drewN ?_ _ | refine blk_drew ?_ | refine blk_alloc ?_ _)); refine blk_far ?_ us.out _; refine blk_far ?_ us.out _; exact uf0_ a8⟩, ⟨by (with_reducible repeat (first | refine blk_drewN ?_ _ | refine blk_drew ?_ | refine blk_alloc ?_ _)); refine blk_far ?_ ut.out _; refine blk_far ?_ ut.out _; exact uf0_ e8⟩, ⟨by (with_reducible repeat (first | refine blk_drewN ?_ _ | refine blk_drew ?_ | refine blk_alloc ?_ _)); refine blk_put (cs := #[.slice ah1 ai5.length sh, .slice ns io.length nt]) ?_ 1 _ rfl; refine blk_put (cs := #[.slice si im.length rf, .slice ns io.length nt]) ?_ 0 _ rfl; exact uf0_ fs⟩, ⟨spec_WithoutCircles.calls0_q0⟩⟩
 ·replace c3 := Bool.eq_false_iff.mpr c3
  subst c3
  replace H := ifn_ H
  simp only [Option.some.injEq, Prod.mk.injEq] at H
  obtain ⟨rfl, rfl, rfl⟩ := H
  go_enter Try.func53, Try.ntmps53
  go_wp2_with (first | ((with_reducible refine gate_dst (N := 1) rfl ?_); refine bx_ (N := 1) #[.slice af ab.length ae, .slice ah aa.length ag] 25 ?_; intro ax hg w45 hbox hb; have a8 := Aside0.mk (hbox); have bg2 := Aside0.mk ((g21_ : w.heap.size ≤ ax)); have ag0 := Aside0.mk ((g21_ : w.heap.size ≤ ax)); replace HB := Aside0.mk (below_step (spec_WithoutCircles.calls0_q0) hb); clear hb hbox hg) | ((with_reducible refine gate_dst (N := 2) rfl ?_); refine bx_ (N := 2) #[.slice none 0 0, .slice none 0 0] 25 ?_; intro fi hg w46 hbox hb; have e8 := Aside0.mk (hbox); have fd2 := Aside0.mk ((g21_ : w.heap.size ≤ fi)); have dm0 := Aside0.mk ((g21_ : w.heap.size ≤ fi)); replace HB := Aside0.mk (below_step (spec_WithoutCircles.calls0_q0) hb); have bo4 := Aside0.mk ((g89_ : ax ≠ fi)); have bo5 := Aside0.mk ((g90_ : fi ≠ ax)); replace a8 := bb_ a8 hb; clear hb hbox hg; have fd8 := bo4.out; have fd9 := bo5.out; obtain ⟨aw1, aw2, aw3, aw4⟩ := blk2_ a8) | ((with_reducible refine gate_callee (f := 42) rfl ?_); refine goesL_ (some 8) rfl rfl Try.func42 k_ rfl #[.agg #[.slice af ab.length ae, .slice ah aa.length ag]] rfl (g3_) ?_; (with_reducible refine (spec_BookOk.calls k _ _ ab _ _ aa false _ ?side1 ?side2 ?side3 ?side4 A2.out).mono ?_); (case side1 => exact uf2_ b7); (case side2 => exact cn.out); (case side3 => exact uf2_ bz); (case side4 => exact cr.out); rintro e w49 ⟨rfl, hb⟩; refine ⟨_, rfl, ?_⟩; replace a8 := bb_ a8 hb; replace e8 := bb_ e8 hb; replace HB := Aside0.mk (below_step (spec_WithoutCircles.calls0_q0) hb); (try clear hb); (try clear hk hi); obtain ⟨gl9, gm0, gm1, gm2⟩ := blk2_ e8))
  refine bodyPost_ret (results_ct rfl _ _ fi 25 #[.slice none 0 0, .slice none 0 0] (0, 0) _ rfl (by (with_reducible repeat (first | refine blk_drewN ?_ _ | refine blk_drew ?_ | refine blk_alloc ?_ _)); refine blk_put (cs := #[.slice none 0 0, .slice none 0 0]) ?_ 1 _ rfl; refine blk_put (cs := #[.slice none 0 0, .slice none 0 0]) ?_ 0 _ rfl; exact uf0_ e8) Try.underlying25 rfl (g1_)) rfl ?_
  exact ⟨_, _, g4_, g22_, g20_, spec_WithoutCircles.calls0_q0⟩
theorem spec_WithoutCircles.calls (k : Nat) (af : Option Addr) (ae : Nat) (ab : List Int) (ah : Option Addr) (ag : Nat) (aa : List (List Int)) (r1 : List Int) (r2 : List (List Int)) (r3 : Int) (w : World) (cg : Kd.C (Kd.int .i64) w af ab.length ab) (ck : ab.length ≤ ae) (ch : Kd.C (Kd.slice 3 (Kd.int .i64)) w ah aa.length aa) (cl : aa.length ≤ ag) (h : spec_WithoutCircles.f k ab aa = some (r1, r2, r3)) :
  Calls Try.prog 53 #[.agg #[.slice af ab.length ae, .slice ah aa.length ag]] w fun e w' => ∃ v0_ v1_ : Value, e = .returned (.tuple #[.agg #[v0_, v1_], .int .i64 r3]) ∧ Kd.R (Kd.int .i64) 3 w' w.heap.size (fun _ => True) v0_ r1 ∧ Kd.S (Kd.slice 3 (Kd.int .i64)) 22 w' w.heap.size (fun k_ => some k_ ≠ (v0_ : Value).ownBlock) v1_ r2 ∧ Below w.heap.size w w' := by
 refine (spec_WithoutCircles.calls0 k af ae ab ah ag aa r1 r2 r3 w cg ck ch cl h).mono ?_
 rintro e w' ⟨v0_, v1_, he, h0, h1, hb⟩
 exact ⟨v0_, v1_, he, Kd.R_mono h0 (fun _ _ => trivial), Kd.S_mono h1 (fun _ h_ => h_.2), hb⟩
end Go.Proofs.Ytfooakkhkehpiaa.PU
