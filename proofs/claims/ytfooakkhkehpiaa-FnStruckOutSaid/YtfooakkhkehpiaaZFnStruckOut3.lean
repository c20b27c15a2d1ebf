/- FnStruckOut: for every input the law holds. No condition. -/
import Derived.Test.YtfooakkhkehpiaaZFnStruckOut1
import Derived.Test.YtfooakkhkehpiaaZFnStruckOut2
namespace Go.Proofs.Ytfooakkhkehpiaa.PU
open Go.RowKit Go.Proofs.YtfooakkhkehpiaaW.PrintWords Go.Proofs.YtfooakkhkehpiaaW.PrintLast Go.Proofs.YtfooakkhkehpiaaW.PrintMore Go.Proofs.Ytfooakkhkehpiaa.Qd
attribute [local go_sem] max2_int min2_int max_two min_two max_three min_three max_four min_four
set_option linter.unusedVariables false
set_option linter.unusedSimpArgs false
mutual
def spec_l3Paths.j0 : Nat → List Int → List (List Int) → Int → Bool → List Int → List (List Int) → Option ((List (List Int)))
 | 0, _, _, _, _, _, _ => none
 | k + 1, x1, x5, x6, x31, k5, jk => if x31 = true then ((some (([] : List Int) : List Int)).bind fun qy => (if qy.length + x1.length < 17592186044416 then ((some (([(qy ++ x1)] : List (List Int)) : List (List Int))).bind fun j6 => (if x5.length + j6.length < 5864062014805 then (spec_l3Paths.j1 k x1 (x5 ++ j6) x6 k5 jk) else (none))) else (none))) else (spec_l3Paths.j1 k x1 x5 x6 k5 jk)
def spec_l3Paths.j1 : Nat → List Int → List (List Int) → Int → List Int → List (List Int) → Option ((List (List Int)))
 | 0, _, _, _, _, _ => none
 | k + 1, x1, x5, x6, k5, jk => if 0 < (x1.length : Int) then (spec_l3Paths.l0 k x1 x5 x6 (wrap64 ((rd x1 0) + 1)) k5 jk) else (none)
def spec_l3Paths.l0 : Nat → List Int → List (List Int) → Int → Int → List Int → List (List Int) → Option ((List (List Int)))
 | 0, _, _, _, _, _, _ => none
 | k + 1, x1, x5, x6, x7, k5, jk => if x7 < (k5.length : Int) then (if 0 ≤ x6 then (if x6 < (jk.length : Int) then (if 0 ≤ x7 then (if x7 < ((rd_L1 jk x6).length : Int) then (if (rd (rd_L1 jk x6) x7) = 0 then (spec_l3Paths.l0 k x1 x5 x6 (wrap64 (x7 + 1)) k5 jk) else (spec_l3Paths.l1 k x1 x5 x6 x7 0 k5 jk)) else (none)) else (none)) else (none)) else (none)) else (some x5)
def spec_l3Paths.l1 : Nat → List Int → List (List Int) → Int → Int → Int → List Int → List (List Int) → Option ((List (List Int)))
 | 0, _, _, _, _, _, _, _ => none
 | k + 1, x1, x5, x6, x7, x8, k5, jk => if x8 < (x1.length : Int) then (if 0 ≤ x8 then (if (rd x1 x8) = x7 then (spec_l3Paths.l0 k x1 x5 x6 (wrap64 (x7 + 1)) k5 jk) else (spec_l3Paths.l1 k x1 x5 x6 x7 (wrap64 (x8 + 1)) k5 jk)) else (none)) else ((some (([] : List Int) : List Int)).bind fun pi => (if pi.length + x1.length < 17592186044416 then ((some (pi ++ x1 : List Int)).bind fun j7 => ((some (([x7] : List Int) : List Int)).bind fun f3 => (if j7.length + f3.length < 17592186044416 then ((spec_l3Paths.f k k5 jk (j7 ++ f3)).bind fun g3 => (if x5.length + g3.length < 5864062014805 then (spec_l3Paths.l0 k x1 (x5 ++ g3) x6 (wrap64 (x7 + 1)) k5 jk) else (none))) else (none)))) else (none)))
def spec_l3Paths.f : Nat → List Int → List (List Int) → List Int → Option ((List (List Int)))
 | 0, _, _, _ => none
 | k + 1, ab, aa, l1 => (some (([] : List (List Int)) : List (List Int))).bind fun f4 => (if 0 ≤ (wrap64 ((l1.length : Int) - 1)) then (if (wrap64 ((l1.length : Int) - 1)) < (l1.length : Int) then (if (l1.length : Int) > 1 then (if 0 ≤ (rd l1 (wrap64 ((l1.length : Int) - 1))) then (if (rd l1 (wrap64 ((l1.length : Int) - 1))) < (aa.length : Int) then (if 0 < (l1.length : Int) then (if 0 ≤ (rd l1 0) then (if (rd l1 0) < ((rd_L1 aa (rd l1 (wrap64 ((l1.length : Int) - 1)))).length : Int) then (spec_l3Paths.j0 k l1 f4 (rd l1 (wrap64 ((l1.length : Int) - 1))) (decide ((rd (rd_L1 aa (rd l1 (wrap64 ((l1.length : Int) - 1)))) (rd l1 0)) > 0)) ab aa) else (none)) else (none)) else (none)) else (none)) else (none)) else (spec_l3Paths.j0 k l1 f4 (rd l1 (wrap64 ((l1.length : Int) - 1))) false ab aa)) else (none)) else (none))
end
theorem spec_l3Paths.mq {p : Prop} (h : p := by
 repeat' first
 | (with_reducible exact ih0 _ _ _)
 | (with_reducible exact ih1 _ _ _ _ _ _)
 | (with_reducible exact ih2 _ _ _ _ _)
 | (with_reducible exact ih3 _ _ _ _ _ _)
 | (with_reducible exact ih4 _ _ _ _ _ _ _)
 | (with_reducible exact LeO.refl _)
 | (with_reducible exact LeO.none _)
 | (with_reducible refine LeO.ite ?_ ?_)
 | (with_reducible refine LeO.bind ?_ (fun _ => ?_))
 | exact ih0 _ _ _
 | exact ih1 _ _ _ _ _ _
 | exact ih2 _ _ _ _ _
 | exact ih3 _ _ _ _ _ _
 | exact ih4 _ _ _ _ _ _ _
 | exact LeO.none _
 | refine LeO.ite ?_ ?_
 | refine LeO.bind ?_ (fun _ => ?_)) : p := h
theorem spec_l3Paths.mono_l : ∀ k, (∀ y0 y1 y2, LeO (spec_l3Paths.f k y0 y1 y2) (spec_l3Paths.f (k + 1) y0 y1 y2)) ∧ (∀ y0 y1 y2 y3 y4 y5, LeO (spec_l3Paths.j0 k y0 y1 y2 y3 y4 y5) (spec_l3Paths.j0 (k + 1) y0 y1 y2 y3 y4 y5)) ∧ (∀ y0 y1 y2 y3 y4, LeO (spec_l3Paths.j1 k y0 y1 y2 y3 y4) (spec_l3Paths.j1 (k + 1) y0 y1 y2 y3 y4)) ∧ (∀ y0 y1 y2 y3 y4 y5, LeO (spec_l3Paths.l0 k y0 y1 y2 y3 y4 y5) (spec_l3Paths.l0 (k + 1) y0 y1 y2 y3 y4 y5)) ∧ (∀ y0 y1 y2 y3 y4 y5 y6, LeO (spec_l3Paths.l1 k y0 y1 y2 y3 y4 y5 y6) (spec_l3Paths.l1 (k + 1) y0 y1 y2 y3 y4 y5 y6))
 | 0 => ⟨fun _ _ _ r h => by simp [spec_l3Paths.f] at h, fun _ _ _ _ _ _ r h => by simp [spec_l3Paths.j0] at h, fun _ _ _ _ _ r h => by simp [spec_l3Paths.j1] at h, fun _ _ _ _ _ _ r h => by simp [spec_l3Paths.l0] at h, fun _ _ _ _ _ _ _ r h => by simp [spec_l3Paths.l1] at h⟩
 | k + 1 => by
  obtain ⟨ih0, ih1, ih2, ih3, ih4⟩ := spec_l3Paths.mono_l k
  refine ⟨?_, ?_, ?_, ?_, ?_⟩
  ·intro y0 y1 y2
   unfold spec_l3Paths.f
   exact spec_l3Paths.mq
  ·intro y0 y1 y2 y3 y4 y5
   unfold spec_l3Paths.j0
   exact spec_l3Paths.mq
  ·intro y0 y1 y2 y3 y4
   unfold spec_l3Paths.j1
   exact spec_l3Paths.mq
  ·intro y0 y1 y2 y3 y4 y5
   unfold spec_l3Paths.l0
   exact spec_l3Paths.mq
  ·intro y0 y1 y2 y3 y4 y5 y6
   unfold spec_l3Paths.l1
   exact spec_l3Paths.mq
theorem spec_l3Paths.mono : ∀ a0 a1 a2 k, LeO (spec_l3Paths.f k a0 a1 a2) (spec_l3Paths.f (k + 1) a0 a1 a2) := by
 intro a0 a1 a2 k
 obtain ⟨ih0, ih1, ih2, ih3, ih4⟩ := spec_l3Paths.mono_l k
 exact ih0 a0 a1 a2
def spec_l3Paths.T3 : Bool × List (List Nat × List Nat) := (true, [([], []), ([0], [0]), ([1], [1]), ([2], [2]), ([3], [3]), ([4, 3], [3, 4]), ([3], [3]), ([5, 6, 3], [3, 5, 6]), ([7, 3], [3, 7]), ([3], [3]), ([9, 3], [3, 9]), ([10, 3], [3, 10]), ([8, 11, 3], [3, 8, 11]), ([12, 3], [3, 12]), ([13, 3], [3, 13]), ([3, 14], [3, 14])])
def spec_l3Paths.B3 : List Nat := [0, 1, 3, 7, 15, 31, 15, 127, 255, 15, 527, 1551, 4095, 8191, 16383, 32767]
theorem spec_l3Paths.tab3 : rtab .any (opsOf Try.f113 3) = spec_l3Paths.T3 := by kernel_rfl
theorem spec_l3Paths.bits3 : waitsOk spec_l3Paths.T3.2 spec_l3Paths.B3 = true := by kernel_rfl
def spec_l3Paths.T13 : Bool × List (List Nat × List Nat) := (true, [([], []), ([], []), ([], []), ([], []), ([2, 3], [2, 3]), ([], []), ([5], [5]), ([4, 6, 4], [4, 6]), ([1, 7, 7], [1, 7]), ([0, 8, 8], [0, 8]), ([9, 9, 0, 1, 2, 3, 4, 5, 6, 7, 8, 9], [0, 9])])
def spec_l3Paths.B13 : List Nat := [0, 0, 0, 0, 12, 0, 32, 124, 254, 511, 1023]
theorem spec_l3Paths.tab13 : rtab .any (opsOf Try.f113 13) = spec_l3Paths.T13 := by kernel_rfl
theorem spec_l3Paths.bits13 : waitsOk spec_l3Paths.T13.2 spec_l3Paths.B13 = true := by kernel_rfl
theorem a6 {p : Prop} (h : p := by repeat (first | (with_reducible first | exact HB.out | apply below_alloc | apply pw_below_drewN | apply below_drew1 | refine below_set ?_ bw6.out) | exact HB.out)) : p := h
set_option maxHeartbeats 8000000 in
set_option maxRecDepth 100000 in
theorem spec_l3Paths.calls (k : Nat) : ∀ (ae : Option Addr) (ac : Nat) (ab : List Int) (ag : Option Addr) (af : Nat) (aa : List (List Int)) (A1 : Option Addr) (c1 : Nat) (l1 : List Int) (r : List (List Int)) (w : World) (bo : Kd.C (Kd.int .i64) w ae ab.length ab) (bs : ab.length ≤ ac) (bp : Kd.C (Kd.slice 3 (Kd.int .i64)) w ag aa.length aa) (bt : aa.length ≤ af) (er : Kd.C (Kd.int .i64) w A1 l1.length l1) (ey : l1.length ≤ c1) (h : spec_l3Paths.f k ab aa l1 = some r),
  Calls Try.prog 113 #[.agg #[.slice ae ab.length ac, .slice ag aa.length af], .slice A1 l1.length c1] w fun e w' => ∃ v0_ : Value, e = .returned (v0_) ∧ Kd.N (Kd.slice 3 (Kd.int .i64)) 22 w' w.heap.size (fun k_ => (w.heap.size ≤ k_)) v0_ r ∧ Below w.heap.size w w' := by
 induction k using Nat.strongRecOn with
 | _ k ih =>
 intro ae ac ab ag af aa A1 c1 l1 r w bo bs bp bt er ey h
 cases k with
 | zero => exact absurd h (by simp [spec_l3Paths.f])
 | succ k =>
 simp only [spec_l3Paths.f] at h
 have hu25 := Try.underlying25
 have bg := Aside0.mk bo
 have bx := Aside0.mk bs
 clear bo bs
 have bb := Aside0.mk bp
 have b2 := Aside0.mk bt
 clear bp bt
 have dc := Aside0.mk er
 have uz := Aside0.mk ey
 clear er ey
 have HB := Aside0.mk (Below.refl w.heap.size w)
 have H : ((some (([] : List (List Int)) : List (List Int))).bind fun f4 => (if 0 ≤ (wrap64 ((l1.length : Int) - 1)) then (if (wrap64 ((l1.length : Int) - 1)) < (l1.length : Int) then (if (l1.length : Int) > 1 then (if 0 ≤ (rd l1 (wrap64 ((l1.length : Int) - 1))) then (if (rd l1 (wrap64 ((l1.length : Int) - 1))) < (aa.length : Int) then (if 0 < (l1.length : Int) then (if 0 ≤ (rd l1 0) then (if (rd l1 0) < ((rd_L1 aa (rd l1 (wrap64 ((l1.length : Int) - 1)))).length : Int) then (spec_l3Paths.j0 k l1 f4 (rd l1 (wrap64 ((l1.length : Int) - 1))) (decide ((rd (rd_L1 aa (rd l1 (wrap64 ((l1.length : Int) - 1)))) (rd l1 0)) > 0)) ab aa) else (none)) else (none)) else (none)) else (none)) else (none)) else (spec_l3Paths.j0 k l1 f4 (rd l1 (wrap64 ((l1.length : Int) - 1))) false ab aa)) else (none)) else (none))) = some r := h
 clear h
 obtain ⟨f4, hy242⟩ : ∃ y_ : List (List Int), y_ = (([] : List (List Int))) := ⟨_, rfl⟩
 replace H : (if 0 ≤ (wrap64 ((l1.length : Int) - 1)) then (if (wrap64 ((l1.length : Int) - 1)) < (l1.length : Int) then (if (l1.length : Int) > 1 then (if 0 ≤ (rd l1 (wrap64 ((l1.length : Int) - 1))) then (if (rd l1 (wrap64 ((l1.length : Int) - 1))) < (aa.length : Int) then (if 0 < (l1.length : Int) then (if 0 ≤ (rd l1 0) then (if (rd l1 0) < ((rd_L1 aa (rd l1 (wrap64 ((l1.length : Int) - 1)))).length : Int) then (spec_l3Paths.j0 k l1 f4 (rd l1 (wrap64 ((l1.length : Int) - 1))) (decide ((rd (rd_L1 aa (rd l1 (wrap64 ((l1.length : Int) - 1)))) (rd l1 0)) > 0)) ab aa) else (none)) else (none)) else (none)) else (none)) else (none)) else (spec_l3Paths.j0 k l1 f4 (rd l1 (wrap64 ((l1.length : Int) - 1))) false ab aa)) else (none)) else (none)) = some r := by first | (rw [hy242]; with_reducible exact H) | (have H2_ := (Option.bind_some _ _).symm.trans H; rw [hy242]; with_reducible exact H2_) | (have H2_ := (Option.bind_some _ _).symm.trans H; with_reducible exact H2_) | with_reducible exact H | (rw [hy242]; exact H) | exact H
 have al0 := Aside0.mk hy242
 clear hy242
 obtain ⟨ji3, hji3⟩ : ∃ j_ : Int, (wrap64 ((l1.length : Int) - 1)) = j_ := ⟨_, rfl⟩
 replace H : (if 0 ≤ (ji3) then (if (ji3) < (l1.length : Int) then (if (l1.length : Int) > 1 then (if 0 ≤ (rd l1 (ji3)) then (if (rd l1 (ji3)) < (aa.length : Int) then (if 0 < (l1.length : Int) then (if 0 ≤ (rd l1 0) then (if (rd l1 0) < ((rd_L1 aa (rd l1 (ji3))).length : Int) then (spec_l3Paths.j0 k l1 f4 (rd l1 (ji3)) (decide ((rd (rd_L1 aa (rd l1 (ji3))) (rd l1 0)) > 0)) ab aa) else (none)) else (none)) else (none)) else (none)) else (none)) else (spec_l3Paths.j0 k l1 f4 (rd l1 (ji3)) false ab aa)) else (none)) else (none)) = some r := by first | (rw [hji3] at H; exact H) | (simp only [hji3] at H ⊢; exact H)
 have hji3w : (IntKind.i64.wrap ((l1.length : Int) - 1)) = ji3 := (i64_w _).trans hji3
 obtain ⟨c4, H⟩ := pos_ H
 have fw := decide_eq_true c4
 clear c4
 obtain ⟨c5, H⟩ := pos_ H
 have dv := decide_eq_true c5
 clear c5
 have tc := Aside0.mk H
 clear H
 go_enter Try.func113, Try.ntmps113
 go_upto_region 3 with (first | ((with_reducible refine gate_dst (N := 2) rfl ?_); refine bx_ (N := 2) #[.slice ae ab.length ac, .slice ag aa.length af] 25 ?_; intro a8 hg w7 hbox hb; have am := Aside0.mk (hbox); have cw8 := Aside0.mk ((g34_ : w.heap.size ≤ a8)); have bw6 := Aside0.mk ((g34_ : w.heap.size ≤ a8)); replace HB := Aside0.mk (below_step (a6) hb); clear hb hbox hg) | ((with_reducible refine gate_dst (N := 9) rfl ?_); refine Kd.N_lit (Kd.slice 3 (Kd.int .i64)) _ 22 ?hg (N' := 9) ?hd (xs := ([] : List (List Int))) (inner := []) (ok := (fun k_ => (w.heap.size ≤ k_) ∧ k_ ≠ a8)) (okp := (fun k_ => (w.heap.size ≤ k_) ∧ k_ ≠ a8)) ?hr ?hp (fun _ hk => hk) ((show ∀ k_, w7.heap.size ≤ k_ → (fun k_ => (w.heap.size ≤ k_) ∧ k_ ≠ a8) k_ from fun k_ hk => ⟨(Nat.le_trans (below_size (a6)) hk), Kd.freshB (g := a8) (o := .cells #[.slice ae ab.length ac, .slice ag aa.length af] 25 (0, 0)) (uf0_ am) k_ hk⟩) _ (Nat.le_refl _)) (Below.refl _ _) (Nat.le_refl _) (by simp) ?_; (case hd => rfl); (case hg => rfl); (case hr => first | (go_simp; done) | (go_simp; rfl)); (case hp => exact (Reps.none _ _)); intro g4 w8 ib hb hg_ hnew_; clear hg_ hnew_; (first | rw [← al0.out] at ib | (simp only [Int.reduceToNat] at ib; rw [← al0.out] at ib)); have pj := Aside0.mk (Kd.N_lower ib (below_size (a6))); replace am := bb_ am hb; replace HB := Aside0.mk (below_step (a6) hb); clear hb ib; have my : 0 ≤ ((ji3) : Int) := of_decide_eq_true (g0_); have mz : (ji3) < (l1.length : Int) := of_decide_eq_true (g0_); obtain ⟨vk, ba3, pk⟩ := Kd.at_int dc.out (ji3) my mz; cases ba3; replace pk := cl_ HB pk; replace my := eq_true my; replace mz := eq_true mz)); (repeat ((first | go_step3 | rw [Exit.noGoto_normal] | rw [Exit.noGoto_exit] | rw [Exit.noGoto_ret]); go_upto_region 3 with (first | ((with_reducible refine gate_dst (N := 2) rfl ?_); refine bx_ (N := 2) #[.slice ae ab.length ac, .slice ag aa.length af] 25 ?_; intro a8 hg w7 hbox hb; have am := Aside0.mk (hbox); have cw8 := Aside0.mk ((g34_ : w.heap.size ≤ a8)); have bw6 := Aside0.mk ((g34_ : w.heap.size ≤ a8)); replace HB := Aside0.mk (below_step (a6) hb); clear hb hbox hg) | ((with_reducible refine gate_dst (N := 9) rfl ?_); refine Kd.N_lit (Kd.slice 3 (Kd.int .i64)) _ 22 ?hg (N' := 9) ?hd (xs := ([] : List (List Int))) (inner := []) (ok := (fun k_ => (w.heap.size ≤ k_) ∧ k_ ≠ a8)) (okp := (fun k_ => (w.heap.size ≤ k_) ∧ k_ ≠ a8)) ?hr ?hp (fun _ hk => hk) ((show ∀ k_, w7.heap.size ≤ k_ → (fun k_ => (w.heap.size ≤ k_) ∧ k_ ≠ a8) k_ from fun k_ hk => ⟨(Nat.le_trans (below_size (a6)) hk), Kd.freshB (g := a8) (o := .cells #[.slice ae ab.length ac, .slice ag aa.length af] 25 (0, 0)) (uf0_ am) k_ hk⟩) _ (Nat.le_refl _)) (Below.refl _ _) (Nat.le_refl _) (by simp) ?_; (case hd => rfl); (case hg => rfl); (case hr => first | (go_simp; done) | (go_simp; rfl)); (case hp => exact (Reps.none _ _)); intro g4 w8 ib hb hg_ hnew_; clear hg_ hnew_; (first | rw [← al0.out] at ib | (simp only [Int.reduceToNat] at ib; rw [← al0.out] at ib)); have pj := Aside0.mk (Kd.N_lower ib (below_size (a6))); replace am := bb_ am hb; replace HB := Aside0.mk (below_step (a6) hb); clear hb ib; have my : 0 ≤ ((ji3) : Int) := of_decide_eq_true (g0_); have mz : (ji3) < (l1.length : Int) := of_decide_eq_true (g0_); obtain ⟨vk, ba3, pk⟩ := Kd.at_int dc.out (ji3) my mz; cases ba3; replace pk := cl_ HB pk; replace my := eq_true my; replace mz := eq_true mz))))
 (try simp only [Act.put, List.setIfInBounds_toArray, List.set_cons_zero, List.set_cons_succ])
 go_cut [31] (fun v31 wc => ∃ (kq : Nat) (al1 : Bool), v31 = .bool al1 ∧ Aside0 (spec_l3Paths.j0 kq l1 f4 (rd l1 (ji3)) al1 ab aa = some r) ∧ Aside0 (kq ≤ k) ∧ Aside0 (Kd.N (Kd.slice 3 (Kd.int .i64)) 22 wc w.heap.size (fun k_ => (w.heap.size ≤ k_) ∧ k_ ≠ a8) g4 f4) ∧ Aside0 (wc.heap[a8]? = some (.cells #[(.slice ae ab.length ac), (.slice ag aa.length af)] 25 (0, 0))) ∧ Aside0 (Below w.heap.size w wc))
 case first =>
  have H := tc.out
  clear tc
  by_cases b9 : (l1.length : Int) > 1
  ·rw [if_pos b9] at H
   have fy := decide_eq_true b9
   have td : decide (1 < l1.length) = true := decide_eq_true (by omega)
   clear b9
   (first | rw [fy] | (simp only [i64_w, i32_w]; rw [fy]) | skip)
   obtain ⟨da, H⟩ := pos_ H
   have jc := decide_eq_true da
   clear da
   obtain ⟨cu, H⟩ := pos_ H
   have iu := decide_eq_true cu
   clear cu
   obtain ⟨eh, H⟩ := pos_ H
   have o5 := decide_eq_true eh
   have yh : decide (0 < l1.length) = true := decide_eq_true (by omega)
   clear eh
   obtain ⟨ez, H⟩ := pos_ H
   have mg := decide_eq_true ez
   clear ez
   obtain ⟨bq, H⟩ := pos_ H
   have fz := decide_eq_true bq
   clear bq
   have H' := Aside0.mk H
   clear H
   try go_wp2
   replace pj := Aside0.mk (Kd.N_drew pj.out)
   replace am := Aside0.mk (blk_drew am.out)
   replace HB := Aside0.mk (below_drew1 HB.out)
   have te : 0 ≤ ((rd l1 (ji3)) : Int) := of_decide_eq_true (g0_)
   have tf : (rd l1 (ji3)) < (aa.length : Int) := of_decide_eq_true (g0_)
   obtain ⟨bw7, ee7, cw9, cx0, qz, bw8, bw9⟩ := at_L1 bb.out (rd l1 (ji3)) te tf
   have cx1 := qz
   cases cx0
   replace qz := cl_ HB qz
   have bx0 := Aside0.mk bw9
   have ee8 := Aside0.mk bw8
   clear bw9 bw8
   replace te := eq_true te
   replace tf := eq_true tf
   have tg : 0 ≤ (0 : Int) := (by omega)
   have th : 0 < (l1.length : Int) := of_decide_eq_true (g0_)
   obtain ⟨cx2, cx3, n7⟩ := Kd.at_int dc.out 0 tg th
   have al2 := n7
   (try rw [show ((0 : Int)).toNat = 0 from rfl] at al2)
   (try rw [show 0 * 1 = 0 from rfl] at al2)
   (try rw [Addr.add_zero'] at al2)
   obtain rfl : vk = cx2 := (by injection cx3)
   have qi247 : (0 < l1.length) = True := eq_true (by omega)
   (try rw [show ((0 : Int)).toNat = 0 from rfl] at n7)
   (try rw [Addr.add_zero'] at n7)
   replace n7 := cl_ HB n7
   replace tg := eq_true tg
   replace th := eq_true th
   have ti : 0 ≤ ((rd l1 0) : Int) := of_decide_eq_true (g0_)
   have tj : (rd l1 0) < ((rd_L1 aa (rd l1 (ji3))).length : Int) := of_decide_eq_true (g0_)
   obtain ⟨bx1, cx4, q7⟩ := Kd.at_int bx0.out (rd l1 0) ti tj
   have cx5 := q7
   cases cx4
   replace q7 := cl_ HB q7
   replace ti := eq_true ti
   replace tj := eq_true tj
   refine start_ (n := 16) (S := fun w' => w'.cell? ⟨a8, 0, none⟩ = some (.slice ae ab.length ac) ∧ w'.cell? ⟨a8, 1, none⟩ = some (.slice (some bw7) aa.length af) ∧ w'.cell? (bw7.add ((rd l1 (ji3))).toNat) = some (.slice (some bx1) (rd_L1 aa (rd l1 (ji3))).length cw9) ∧ w'.cell? vk = some (.int .i64 (rd l1 0)) ∧ w'.cell? (bx1.add ((rd l1 0)).toNat) = some (.int .i64 (rd (rd_L1 aa (rd l1 (ji3))) (rd l1 0)))) (ds := []) (tl_ 16 0) (g1_) rfl (g1_) ⟨(blk_cell am.out 0).trans rfl, (blk_cell am.out 1).trans rfl, ((cl_ HB cx1).trans rfl), ((cl_ HB al2).trans rfl), ((cl_ HB cx5).trans rfl)⟩ (fun hHeld => ?_); refine with_tabW spec_l3Paths.tab3 spec_l3Paths.bits3 (fun HT_ HW_ => ?_)
   generalize w8.drew = qm at pj am HB bx0 qz n7 q7 hHeld ⊢
   refine pw_ 0 16 (tl_ 16 1) rfl rfl ?_
   refine pw_ 1 17 (tl_ 16 3) rfl rfl ?_
   refine pw_ 2 18 (tl_ 16 7) rfl rfl ?_
   refine pw_ 3 19 (tl_ 16 15) rfl rfl ?_
   refine pw_ 4 20 (tl_ 16 31) rfl rfl ?_
   refine pw_ 6 22 (tl_ 16 95) rfl rfl ?_
   refine pw_ 9 25 (tl_ 16 607) rfl rfl ?_
   refine pw_ 10 26 (tl_ 16 1631) rfl rfl ?_
   refine tk4_ 5 21 (tl_ 16 1663) rfl rfl hHeld ?_
   refine pw_ 7 23 (tl_ 16 1791) rfl rfl ?_
   refine tk4_ 8 24 (tl_ 16 2047) rfl rfl hHeld ?_
   refine tk4_ 11 27 (tl_ 16 4095) rfl rfl hHeld ?_
   refine pw_ 12 28 (tl_ 16 8191) rfl rfl ?_
   refine tk4_ 13 29 (tl_ 16 16383) rfl rfl hHeld ?_
   refine pw_ 14 30 (tl_ 16 32767) rfl rfl ?_
   refine pw_ 15 31 (tl_ 16 65535) rfl rfl ?_
   refine done_ (done_of HT_.out (g1_)) ?_
   try go_wp2
   go_meet
   case rel => exact ⟨_, (decide ((rd (rd_L1 aa (rd l1 (ji3))) (rd l1 0)) > 0)), (by first | rfl | (simp; done) | (simp only [← hji3] <;> (first | rfl | simp)) | (simp [*]; done)), H', ⟨g9_⟩, ⟨uf4_ pj⟩, ⟨uf0_ am⟩, ⟨a6⟩⟩
  ·rw [if_neg b9] at H
   have fy := decide_eq_false b9
   have td : decide (1 < l1.length) = false := decide_eq_false (by omega)
   clear b9
   (first | rw [fy] | (simp only [i64_w, i32_w]; rw [fy]) | skip)
   have H' := Aside0.mk H
   clear H
   try go_wp2
   replace pj := Aside0.mk (Kd.N_drew pj.out)
   replace am := Aside0.mk (blk_drew am.out)
   replace HB := Aside0.mk (below_drew1 HB.out)
   refine start_ (n := 16) (S := fun w' => True) (ds := []) (tl_ 16 0) (g1_) rfl (g1_) trivial (fun hHeld => ?_); refine with_tabW spec_l3Paths.tab3 spec_l3Paths.bits3 (fun HT_ HW_ => ?_)
   generalize w8.drew = pa at pj am HB hHeld ⊢
   refine pw_ 0 16 (tl_ 16 1) rfl rfl ?_
   refine pw_ 1 17 (tl_ 16 3) rfl rfl ?_
   refine pw_ 2 18 (tl_ 16 7) rfl rfl ?_
   refine pw_ 3 19 (tl_ 16 15) rfl rfl ?_
   refine pu_ 4 20 (tl_ 16 31) rfl rfl ?_
   refine pu_ 5 21 (tl_ 16 63) rfl rfl ?_
   refine pu_ 6 22 (tl_ 16 127) rfl rfl ?_
   refine pu_ 7 23 (tl_ 16 255) rfl rfl ?_
   refine pu_ 8 24 (tl_ 16 511) rfl rfl ?_
   refine pu_ 9 25 (tl_ 16 1023) rfl rfl ?_
   refine pu_ 10 26 (tl_ 16 2047) rfl rfl ?_
   refine pu_ 11 27 (tl_ 16 4095) rfl rfl ?_
   refine pu_ 12 28 (tl_ 16 8191) rfl rfl ?_
   refine pu_ 13 29 (tl_ 16 16383) rfl rfl ?_
   refine pu_ 14 30 (tl_ 16 32767) rfl rfl ?_
   refine pw_ 15 31 (tl_ 16 65535) rfl rfl ?_
   refine done_ (done_of HT_.out (g1_)) ?_
   try go_wp2
   go_meet
   case rel => exact ⟨_, (false), (g2_), H', ⟨g9_⟩, ⟨uf4_ pj⟩, ⟨uf0_ am⟩, ⟨a6⟩⟩
 case rest =>
  clear tc
  try clear c1
  try clear c2
  try clear p2
  try clear q2
  try clear zh
  try clear qi2
  try clear c4
  try clear fw
  try clear c5
  try clear dv
  try clear p6
  try clear b9
  try clear fy
  try clear td
  try clear da
  try clear jc
  try clear cu
  try clear iu
  try clear eh
  try clear o5
  try clear yh
  try clear ez
  try clear mg
  try clear bq
  try clear fz
  try clear pk
  try clear qz
  try clear n7
  try clear q7
  try clear my
  try clear te
  try clear tg
  try clear ti
  try clear mz
  try clear tf
  try clear th
  try clear tj
  obtain ⟨kq, al1, rfl, HA, HJ5, bh, am, HB⟩ := hcut
  cases kq with
  | zero => exact absurd HA.out (by simp [spec_l3Paths.j0])
  | succ kj5 =>
   have H := HA.out
   clear HA
   simp only [spec_l3Paths.j0] at H
   have ba4 := Aside0.mk H
   clear H
   go_upto_if 31 with (fail)
   go_cut [5] (fun v5 wc => ∃ (kq : Nat) (al3 : List (List Int)), Aside0 (spec_l3Paths.j1 kq l1 al3 (rd l1 (ji3)) ab aa = some r) ∧ Aside0 (kq ≤ kj5) ∧ Aside0 (Kd.N (Kd.slice 3 (Kd.int .i64)) 22 wc w.heap.size (fun k_ => (w.heap.size ≤ k_) ∧ k_ ≠ a8) v5 al3) ∧ Aside0 (wc.heap[a8]? = some (.cells #[(.slice ae ab.length ac), (.slice ag aa.length af)] 25 (0, 0))) ∧ Aside0 (Below w.heap.size w wc))
   case first =>
    have H := ba4.out
    clear ba4
    by_cases dd : al1 = true
    ·subst dd
     replace H := ifp_ H
     obtain ⟨qy, hy249⟩ : ∃ y_ : List Int, y_ = (([] : List Int)) := ⟨_, rfl⟩
     replace H : (if qy.length + l1.length < 17592186044416 then ((some (([(qy ++ l1)] : List (List Int)) : List (List Int))).bind fun j6 => (if f4.length + j6.length < 5864062014805 then (spec_l3Paths.j1 kj5 l1 (f4 ++ j6) (rd l1 (ji3)) ab aa) else (none))) else (none)) = some r := by first | (rw [hy249]; with_reducible exact H) | (have H2_ := (Option.bind_some _ _).symm.trans H; rw [hy249]; with_reducible exact H2_) | (have H2_ := (Option.bind_some _ _).symm.trans H; with_reducible exact H2_) | with_reducible exact H | (rw [hy249]; exact H) | exact H
     have al4 := Aside0.mk hy249
     clear hy249
     obtain ⟨ed, H⟩ := pos_ H
     have al5 := Aside0.mk ed
     clear ed
     obtain ⟨n8, hy252⟩ : ∃ y_ : List Int, y_ = (qy ++ l1) := ⟨_, rfl⟩
     replace H : ((some (([n8] : List (List Int)) : List (List Int))).bind fun j6 => (if f4.length + j6.length < 5864062014805 then (spec_l3Paths.j1 kj5 l1 (f4 ++ j6) (rd l1 (ji3)) ab aa) else (none))) = some r := by first | (rw [hy252]; with_reducible exact H) | (have H2_ := (Option.bind_some _ _).symm.trans H; rw [hy252]; with_reducible exact H2_) | (have H2_ := (Option.bind_some _ _).symm.trans H; with_reducible exact H2_) | with_reducible exact H | (rw [hy252]; exact H) | exact H
     have bx2 := Aside0.mk hy252
     clear hy252
     obtain ⟨j6, hy255⟩ : ∃ y_ : List (List Int), y_ = (([n8] : List (List Int))) := ⟨_, rfl⟩
     replace H : (if f4.length + j6.length < 5864062014805 then (spec_l3Paths.j1 kj5 l1 (f4 ++ j6) (rd l1 (ji3)) ab aa) else (none)) = some r := by first | (rw [hy255]; with_reducible exact H) | (have H2_ := (Option.bind_some _ _).symm.trans H; rw [hy255]; with_reducible exact H2_) | (have H2_ := (Option.bind_some _ _).symm.trans H; with_reducible exact H2_) | with_reducible exact H | (rw [hy255]; exact H) | exact H
     have al6 := Aside0.mk hy255
     clear hy255
     obtain ⟨gr, H⟩ := pos_ H
     have bx3 := Aside0.mk gr
     clear gr
     obtain ⟨bx4, hy258⟩ : ∃ y_ : List (List Int), y_ = (f4 ++ j6) := ⟨_, rfl⟩
     replace H : (spec_l3Paths.j1 kj5 l1 bx4 (rd l1 (ji3)) ab aa) = some r := by first | (rw [hy258]; with_reducible exact H) | (have H2_ := (Option.bind_some _ _).symm.trans H; rw [hy258]; with_reducible exact H2_) | (have H2_ := (Option.bind_some _ _).symm.trans H; with_reducible exact H2_) | with_reducible exact H | (rw [hy258]; exact H) | exact H
     have bx5 := Aside0.mk hy258
     clear hy258
     have H' := Aside0.mk H
     clear H
     go_wp2_with (first | ((with_reducible refine gate_dst (N := 33) rfl ?_); refine Kd.R_lit (Kd.int .i64) _ 3 ?hg (N := 33) ?hd (xs := ([] : List Int)) (inner := []) (ok := fun _ => True) (okp := fun _ => True) ?hr ?hp (fun _ hk => hk) trivial (Below.refl _ _) (Nat.le_refl _) (by simp) ?_; (case hd => rfl); (case hg => rfl); (case hr => first | (go_simp; done) | (go_simp; rfl)); (case hp => exact (Reps.none _ _)); intro ba5 zo gd hb hg_ hnew_; clear hg_ hnew_; (first | rw [← al4.out] at gd | (simp only [Int.reduceToNat] at gd; rw [← al4.out] at gd)); replace bh := Aside0.mk (Kd.N_elder' (uf4_ bh) (Kd.R_base gd) hb); have tk := Aside0.mk (Kd.R_lower (Kd.R_newM (M := fun k_ => (w.heap.size ≤ k_)) gd (below_size (a6)) (fun k_ h_ => h_)) (below_size (a6))); replace am := bb_ am hb; replace HB := Aside0.mk (below_step (a6) hb); clear hb gd) | ((with_reducible refine gate_builtin (b := .append) (xs := #[.tmp 33, .tmp 34]) rfl ?_); at_builtin; refine Kd.R_append_rows (Kd.int .i64) (w0 := w) w.heap.size rfl (.tmp 33) (.tmp 34) 22 3 (.int .i64 0) 8 rfl Try.underlying22 info3 rfl (by decide) (by omega) ba5 qy l1 _ _ _ (fun k_ => (w.heap.size ≤ k_)) (fun _ => False) rfl rfl ?aO ?aR (fun _ _ h => h) (fun _ h => h.elim) ?aF ?aB ?aS ?aL ?_; (case aR => exact uf2_ dc); (case aB => exact (a6)); (case aF => exact (fun k_ hk => (Nat.le_trans (below_size (a6)) hk))); (case aO => exact (by (with_reducible repeat (first | apply Kd.R_alloc | apply Kd.R_drewN | apply Kd.R_drew)); exact Kd.R_mono tk.out (fun _ hk => hk.1))); (case aS => exact (below_size (a6))); (case aL => have := al5.out; omega); intro cx6 yo ho hb hg hat; rw [← bx2.out] at ho; replace bh := Aside0.mk (Kd.N_afterv (ok := (fun k_ => (w.heap.size ≤ k_) ∧ k_ ≠ a8)) (uf4_ bh) hg hat); replace am := Aside0.mk (blk_grown (g := a8) (o := .cells #[.slice ae ab.length ac, .slice ag aa.length af] 25 (0, 0)) (uf0_ am) hg (Kd.R_ne tk.out am.out (by decide))); replace HB := Aside0.mk (hb); have pl := Aside0.mk (ho); clear tk; clear ho hb hg hat; obtain ⟨ej, ea, zp⟩ := Kd.R_slice pl.out; subst zp) | ((with_reducible refine gate_dst (N := 36) rfl ?_); refine Kd.N_lit (Kd.slice 3 (Kd.int .i64)) _ 22 ?hg (N' := 36) ?hd (xs := ([n8] : List (List Int))) (inner := [.slice ej n8.length ea]) (ok := (fun k_ => (w.heap.size ≤ k_) ∧ some k_ ≠ (g4 : Value).ownBlock ∧ k_ ≠ a8)) (okp := (fun k_ => (w.heap.size ≤ k_) ∧ some k_ ≠ (g4 : Value).ownBlock ∧ k_ ≠ a8)) ?hr ?hp (fun _ hk => hk) ((show ∀ k_, yo.heap.size ≤ k_ → (fun k_ => (w.heap.size ≤ k_) ∧ some k_ ≠ (g4 : Value).ownBlock ∧ k_ ≠ a8) k_ from fun k_ hk => ⟨(Nat.le_trans (below_size (a6)) hk), Kd.fresh' (Kd.N_lt (uf4_ bh)) k_ hk, Kd.freshB (g := a8) (o := .cells #[.slice ae ab.length ac, .slice ag aa.length af] 25 (0, 0)) (uf0_ am) k_ hk⟩) _ (Nat.le_refl _)) (Below.refl _ _) (Nat.le_refl _) (by simp) ?_; (case hd => rfl); (case hg => rfl); (case hr => first | (go_simp; done) | (go_simp; rfl)); (case hp => exact (Reps.one (show Kd.FK (Kd.slice 3 (Kd.int .i64)) _ _ n8 [.slice ej n8.length ea] from (Kd.FK_slice_mk (Kd.R_reads' (Kd.R_mono (ok' := (fun k_ => (w.heap.size ≤ k_) ∧ some k_ ≠ (g4 : Value).ownBlock ∧ k_ ≠ a8)) (Kd.R_types (Kd.R_apart' (pl.out) (Kd.N_typed bh.out) (by decide)) am.out (by decide)) (fun k_ hk => ⟨hk.1.1, ⟨hk.1.2, hk.2⟩⟩))).2.1 (Kd.R_F (Kd.R_mono (ok' := (fun k_ => (w.heap.size ≤ k_) ∧ some k_ ≠ (g4 : Value).ownBlock ∧ k_ ≠ a8)) (Kd.R_types (Kd.R_apart' (pl.out) (Kd.N_typed bh.out) (by decide)) am.out (by decide)) (fun k_ hk => ⟨hk.1.1, ⟨hk.1.2, hk.2⟩⟩))))) (Reps.none _ _))); intro cx7 yp gc hb hg_ hnew_; clear hg_ hnew_; (first | rw [← al6.out] at gc | (simp only [Int.reduceToNat] at gc; rw [← al6.out] at gc)); replace bh := Aside0.mk (Kd.N_elder' (uf4_ bh) (Kd.N_base gc) hb); have pm := Aside0.mk (Kd.N_lower gc (below_size (a6))); replace am := bb_ am hb; replace HB := Aside0.mk (below_step (a6) hb); clear pl; clear hb gc; obtain ⟨cx8, cx9, ba6⟩ := Kd.N_slice pm.out; subst ba6) | ((with_reducible refine gate_builtin (b := .append) (xs := #[.tmp 32, .tmp 36]) rfl ?_); at_builtin; refine Kd.N_append_rows (Kd.slice 3 (Kd.int .i64)) (w0 := w) w.heap.size rfl (.tmp 32) (.tmp 36) 23 22 (.slice none 0 0) 24 rfl Try.underlying23 info22 rfl (by decide) (by omega) g4 f4 j6 _ _ _ (fun k_ => (w.heap.size ≤ k_) ∧ k_ ≠ a8) (fun k_ => ((fun k_ => (w.heap.size ≤ k_) ∧ k_ ≠ a8)) k_ ∧ some k_ ≠ (g4 : Value).ownBlock) rfl rfl ?aO ?aR (fun _ hk => hk) ?aF ?aB ?aS ?aL ?_; (case aR => exact (by skip; exact Kd.N_F (Kd.N_mono (ok' := (fun k_ => ((fun k_ => (w.heap.size ≤ k_) ∧ k_ ≠ a8)) k_ ∧ some k_ ≠ (g4 : Value).ownBlock)) (pm.out) (fun k_ hk => ⟨⟨hk.1, hk.2.2⟩, hk.2.1⟩)))); (case aB => exact (a6)); (case aF => exact (fun k_ hk => ⟨(Nat.le_trans (below_size (a6)) hk), Kd.freshB (g := a8) (o := .cells #[.slice ae ab.length ac, .slice ag aa.length af] 25 (0, 0)) (uf0_ am) k_ hk⟩)); (case aO => exact (by (with_reducible repeat (first | apply Kd.N_alloc | apply Kd.N_drewN | apply Kd.N_drew)); exact Kd.N_mono bh.out (fun _ hk => ⟨hk.1.1.1, hk.1.1.2⟩))); (case aS => exact (below_size (a6))); (case aL => have := bx3.out; omega); intro cy0 w28 ho hb hg hat; rw [← bx5.out] at ho; replace am := Aside0.mk (blk_grown (g := a8) (o := .cells #[.slice ae ab.length ac, .slice ag aa.length af] 25 (0, 0)) (uf0_ am) hg (Kd.N_ne bh.out am.out (by decide))); replace pm := Aside0.mk (Kd.N_afterv (ok := (fun k_ => (w.heap.size ≤ k_) ∧ k_ ≠ a8)) (by (with_reducible repeat (first | apply Kd.N_alloc | apply Kd.N_drewN | apply Kd.N_drew)); exact Kd.N_mono pm.out (fun _ hk => ⟨⟨hk.1, hk.2.2⟩, hk.2.1⟩)) hg hat); replace HB := Aside0.mk (hb); have bx6 := Aside0.mk (ho); clear bh; clear ho hb hg hat)); (repeat ((first | go_step3 | rw [Exit.noGoto_normal] | rw [Exit.noGoto_exit] | rw [Exit.noGoto_ret]); go_wp2_with (first | ((with_reducible refine gate_dst (N := 33) rfl ?_); refine Kd.R_lit (Kd.int .i64) _ 3 ?hg (N := 33) ?hd (xs := ([] : List Int)) (inner := []) (ok := fun _ => True) (okp := fun _ => True) ?hr ?hp (fun _ hk => hk) trivial (Below.refl _ _) (Nat.le_refl _) (by simp) ?_; (case hd => rfl); (case hg => rfl); (case hr => first | (go_simp; done) | (go_simp; rfl)); (case hp => exact (Reps.none _ _)); intro ba5 zo gd hb hg_ hnew_; clear hg_ hnew_; (first | rw [← al4.out] at gd | (simp only [Int.reduceToNat] at gd; rw [← al4.out] at gd)); replace bh := Aside0.mk (Kd.N_elder' (uf4_ bh) (Kd.R_base gd) hb); have tk := Aside0.mk (Kd.R_lower (Kd.R_newM (M := fun k_ => (w.heap.size ≤ k_)) gd (below_size (a6)) (fun k_ h_ => h_)) (below_size (a6))); replace am := bb_ am hb; replace HB := Aside0.mk (below_step (a6) hb); clear hb gd) | ((with_reducible refine gate_builtin (b := .append) (xs := #[.tmp 33, .tmp 34]) rfl ?_); at_builtin; refine Kd.R_append_rows (Kd.int .i64) (w0 := w) w.heap.size rfl (.tmp 33) (.tmp 34) 22 3 (.int .i64 0) 8 rfl Try.underlying22 info3 rfl (by decide) (by omega) ba5 qy l1 _ _ _ (fun k_ => (w.heap.size ≤ k_)) (fun _ => False) rfl rfl ?aO ?aR (fun _ _ h => h) (fun _ h => h.elim) ?aF ?aB ?aS ?aL ?_; (case aR => exact uf2_ dc); (case aB => exact (a6)); (case aF => exact (fun k_ hk => (Nat.le_trans (below_size (a6)) hk))); (case aO => exact (by (with_reducible repeat (first | apply Kd.R_alloc | apply Kd.R_drewN | apply Kd.R_drew)); exact Kd.R_mono tk.out (fun _ hk => hk.1))); (case aS => exact (below_size (a6))); (case aL => have := al5.out; omega); intro cx6 yo ho hb hg hat; rw [← bx2.out] at ho; replace bh := Aside0.mk (Kd.N_afterv (ok := (fun k_ => (w.heap.size ≤ k_) ∧ k_ ≠ a8)) (uf4_ bh) hg hat); replace am := Aside0.mk (blk_grown (g := a8) (o := .cells #[.slice ae ab.length ac, .slice ag aa.length af] 25 (0, 0)) (uf0_ am) hg (Kd.R_ne tk.out am.out (by decide))); replace HB := Aside0.mk (hb); have pl := Aside0.mk (ho); clear tk; clear ho hb hg hat; obtain ⟨ej, ea, zp⟩ := Kd.R_slice pl.out; subst zp) | ((with_reducible refine gate_dst (N := 36) rfl ?_); refine Kd.N_lit (Kd.slice 3 (Kd.int .i64)) _ 22 ?hg (N' := 36) ?hd (xs := ([n8] : List (List Int))) (inner := [.slice ej n8.length ea]) (ok := (fun k_ => (w.heap.size ≤ k_) ∧ some k_ ≠ (g4 : Value).ownBlock ∧ k_ ≠ a8)) (okp := (fun k_ => (w.heap.size ≤ k_) ∧ some k_ ≠ (g4 : Value).ownBlock ∧ k_ ≠ a8)) ?hr ?hp (fun _ hk => hk) ((show ∀ k_, yo.heap.size ≤ k_ → (fun k_ => (w.heap.size ≤ k_) ∧ some k_ ≠ (g4 : Value).ownBlock ∧ k_ ≠ a8) k_ from fun k_ hk => ⟨(Nat.le_trans (below_size (a6)) hk), Kd.fresh' (Kd.N_lt (uf4_ bh)) k_ hk, Kd.freshB (g := a8) (o := .cells #[.slice ae ab.length ac, .slice ag aa.length af] 25 (0, 0)) (uf0_ am) k_ hk⟩) _ (Nat.le_refl _)) (Below.refl _ _) (Nat.le_refl _) (by simp) ?_; (case hd => rfl); (case hg => rfl); (case hr => first | (go_simp; done) | (go_simp; rfl)); (case hp => exact (Reps.one (show Kd.FK (Kd.slice 3 (Kd.int .i64)) _ _ n8 [.slice ej n8.length ea] from (Kd.FK_slice_mk (Kd.R_reads' (Kd.R_mono (ok' := (fun k_ => (w.heap.size ≤ k_) ∧ some k_ ≠ (g4 : Value).ownBlock ∧ k_ ≠ a8)) (Kd.R_types (Kd.R_apart' (pl.out) (Kd.N_typed bh.out) (by decide)) am.out (by decide)) (fun k_ hk => ⟨hk.1.1, ⟨hk.1.2, hk.2⟩⟩))).2.1 (Kd.R_F (Kd.R_mono (ok' := (fun k_ => (w.heap.size ≤ k_) ∧ some k_ ≠ (g4 : Value).ownBlock ∧ k_ ≠ a8)) (Kd.R_types (Kd.R_apart' (pl.out) (Kd.N_typed bh.out) (by decide)) am.out (by decide)) (fun k_ hk => ⟨hk.1.1, ⟨hk.1.2, hk.2⟩⟩))))) (Reps.none _ _))); intro cx7 yp gc hb hg_ hnew_; clear hg_ hnew_; (first | rw [← al6.out] at gc | (simp only [Int.reduceToNat] at gc; rw [← al6.out] at gc)); replace bh := Aside0.mk (Kd.N_elder' (uf4_ bh) (Kd.N_base gc) hb); have pm := Aside0.mk (Kd.N_lower gc (below_size (a6))); replace am := bb_ am hb; replace HB := Aside0.mk (below_step (a6) hb); clear pl; clear hb gc; obtain ⟨cx8, cx9, ba6⟩ := Kd.N_slice pm.out; subst ba6) | ((with_reducible refine gate_builtin (b := .append) (xs := #[.tmp 32, .tmp 36]) rfl ?_); at_builtin; refine Kd.N_append_rows (Kd.slice 3 (Kd.int .i64)) (w0 := w) w.heap.size rfl (.tmp 32) (.tmp 36) 23 22 (.slice none 0 0) 24 rfl Try.underlying23 info22 rfl (by decide) (by omega) g4 f4 j6 _ _ _ (fun k_ => (w.heap.size ≤ k_) ∧ k_ ≠ a8) (fun k_ => ((fun k_ => (w.heap.size ≤ k_) ∧ k_ ≠ a8)) k_ ∧ some k_ ≠ (g4 : Value).ownBlock) rfl rfl ?aO ?aR (fun _ hk => hk) ?aF ?aB ?aS ?aL ?_; (case aR => exact (by skip; exact Kd.N_F (Kd.N_mono (ok' := (fun k_ => ((fun k_ => (w.heap.size ≤ k_) ∧ k_ ≠ a8)) k_ ∧ some k_ ≠ (g4 : Value).ownBlock)) (pm.out) (fun k_ hk => ⟨⟨hk.1, hk.2.2⟩, hk.2.1⟩)))); (case aB => exact (a6)); (case aF => exact (fun k_ hk => ⟨(Nat.le_trans (below_size (a6)) hk), Kd.freshB (g := a8) (o := .cells #[.slice ae ab.length ac, .slice ag aa.length af] 25 (0, 0)) (uf0_ am) k_ hk⟩)); (case aO => exact (by (with_reducible repeat (first | apply Kd.N_alloc | apply Kd.N_drewN | apply Kd.N_drew)); exact Kd.N_mono bh.out (fun _ hk => ⟨hk.1.1.1, hk.1.1.2⟩))); (case aS => exact (below_size (a6))); (case aL => have := bx3.out; omega); intro cy0 w28 ho hb hg hat; rw [← bx5.out] at ho; replace am := Aside0.mk (blk_grown (g := a8) (o := .cells #[.slice ae ab.length ac, .slice ag aa.length af] 25 (0, 0)) (uf0_ am) hg (Kd.N_ne bh.out am.out (by decide))); replace pm := Aside0.mk (Kd.N_afterv (ok := (fun k_ => (w.heap.size ≤ k_) ∧ k_ ≠ a8)) (by (with_reducible repeat (first | apply Kd.N_alloc | apply Kd.N_drewN | apply Kd.N_drew)); exact Kd.N_mono pm.out (fun _ hk => ⟨⟨hk.1, hk.2.2⟩, hk.2.1⟩)) hg hat); replace HB := Aside0.mk (hb); have bx6 := Aside0.mk (ho); clear bh; clear ho hb hg hat))))
     go_meet
     case rel => exact ⟨_, (bx4), H', ⟨by have := HJ5.out; first | omega | exact Nat.le_refl _⟩, ⟨uf4_ bx6⟩, ⟨uf0_ am⟩, ⟨a6⟩⟩
    ·replace dd := Bool.eq_false_iff.mpr dd
     subst dd
     replace H := ifn_ H
     have H' := Aside0.mk H
     clear H
     go_wp2; (repeat ((first | go_step3 | rw [Exit.noGoto_normal] | rw [Exit.noGoto_exit] | rw [Exit.noGoto_ret]); go_wp2))
     go_meet
     case rel => exact ⟨_, (f4), H', ⟨by have := HJ5.out; first | omega | exact Nat.le_refl _⟩, ⟨uf4_ bh⟩, ⟨uf0_ am⟩, ⟨a6⟩⟩
   case rest =>
    clear ba4
    try clear c1
    try clear c2
    try clear p2
    try clear q2
    try clear zh
    try clear qi2
    try clear c4
    try clear fw
    try clear c5
    try clear dv
    try clear p6
    try clear b9
    try clear fy
    try clear td
    try clear da
    try clear jc
    try clear cu
    try clear iu
    try clear eh
    try clear o5
    try clear yh
    try clear ez
    try clear mg
    try clear bq
    try clear fz
    try clear dd
    try clear ed
    try clear gr
    try clear fk
    try clear p24
    try clear q24
    try clear bx7
    try clear qi24
    try clear pk
    try clear qz
    try clear n7
    try clear q7
    try clear p2
    try clear my
    try clear te
    try clear tg
    try clear ti
    try clear p6
    try clear q2
    try clear mz
    try clear tf
    try clear th
    try clear tj
    obtain ⟨kq, al3, HA, HJ17, bh, am, HB⟩ := hcut
    cases kq with
    | zero => exact absurd HA.out (by simp [spec_l3Paths.j1])
    | succ kj17 =>
     have H := HA.out
     clear HA
     simp only [spec_l3Paths.j1] at H
     obtain ⟨n9, H⟩ := pos_ H
     have al7 := decide_eq_true n9
     have bx8 : decide (0 < l1.length) = true := decide_eq_true (by omega)
     clear n9
     have H' := Aside0.mk H
     clear H
     have zq : 0 ≤ (0 : Int) := (by omega)
     have zr : 0 < (l1.length : Int) := of_decide_eq_true (g0_)
     obtain ⟨cy1, cy2, vl⟩ := Kd.at_int dc.out 0 zq zr
     obtain rfl : vk = cy1 := (by injection cy2)
     have qi261 : (0 < l1.length) = True := eq_true (by omega)
     (try rw [show ((0 : Int)).toNat = 0 from rfl] at vl)
     (try rw [Addr.add_zero'] at vl)
     replace vl := cl_ HB vl
     replace zq := eq_true zq
     replace zr := eq_true zr
     go_wp2; (repeat ((first | go_step3 | rw [Exit.noGoto_normal] | rw [Exit.noGoto_exit] | rw [Exit.noGoto_ret]); go_wp2))
     go_loopg [5, 7] kj17 (fun kq v5 v7 w' => ∃ (fd : List (List Int)) (cq : Int), v7 = .int .i64 cq ∧ Aside0 (spec_l3Paths.l0 kq l1 fd (rd l1 (ji3)) cq ab aa = some r) ∧ Aside0 (kq ≤ kj17) ∧ Aside0 (Kd.N (Kd.slice 3 (Kd.int .i64)) 22 w' w.heap.size (fun k_ => (w.heap.size ≤ k_) ∧ k_ ≠ a8) v5 fd) ∧ Aside0 (w'.heap[a8]? = some (.cells #[(.slice ae ab.length ac), (.slice ag aa.length af)] 25 (0, 0))) ∧ Aside0 (Below w.heap.size w w'))
     case atStart => exact ⟨(al3), (wrap64 ((rd l1 0) + 1)), (g2_), H', ⟨Nat.le_refl _⟩, ⟨uf4_ bh⟩, ⟨uf0_ am⟩, ⟨a6⟩⟩
     case round =>
      clear H'
      try clear c1
      try clear c2
      try clear p2
      try clear q2
      try clear zh
      try clear qi2
      try clear c3
      try clear c4
      try clear fw
      try clear c5
      try clear dv
      try clear p6
      try clear b9
      try clear fy
      try clear td
      try clear da
      try clear jc
      try clear cu
      try clear iu
      try clear eh
      try clear o5
      try clear yh
      try clear ez
      try clear mg
      try clear bq
      try clear fz
      try clear dd
      try clear ed
      try clear gr
      try clear fk
      try clear p24
      try clear q24
      try clear bx7
      try clear qi24
      try clear p26
      try clear q26
      try clear cy3
      try clear qi26
      try clear n9
      try clear al7
      try clear bx8
      try clear pk
      try clear qz
      try clear n7
      try clear q7
      try clear vl
      try clear p2
      try clear p24
      try clear my
      try clear te
      try clear tg
      try clear ti
      try clear zq
      try clear p6
      try clear q2
      try clear q24
      try clear mz
      try clear tf
      try clear th
      try clear tj
      try clear zr
      obtain ⟨fd, cq, rfl, HA, HK3, bh, am, HB⟩ := hrel
      cases gk with
      | zero => exact absurd HA.out (by simp [spec_l3Paths.l0])
      | succ k3 =>
       have H := HA.out
       clear HA
       simp only [spec_l3Paths.l0] at H
       by_cases j8 : cq < (ab.length : Int)
       ·rw [if_pos j8] at H
        have al8 := decide_eq_true j8
        clear j8
        obtain ⟨j9, H⟩ := pos_ H
        have ba7 := decide_eq_true j9
        clear j9
        obtain ⟨lv, H⟩ := pos_ H
        have ba8 := decide_eq_true lv
        clear lv
        obtain ⟨j4, H⟩ := pos_ H
        have aj2 := decide_eq_true j4
        clear j4
        obtain ⟨g2, H⟩ := pos_ H
        have yr := decide_eq_true g2
        clear g2
        by_cases ic : (rd (rd_L1 aa (rd l1 (ji3))) cq) = 0
        ·rw [if_pos ic] at H
         have al9 : ((rd (rd_L1 aa (rd l1 (ji3))) cq) == 0) = true := beq_iff_eq.mpr ic
         have bx9 : ((rd (rd_L1 aa (rd l1 (ji3))) cq) != 0) = false := bne_eq_false_iff_eq.mpr ic
         clear ic
         have H' := Aside0.mk H
         clear H
         obtain ⟨cy4, cy5, cy6, cy7⟩ := blk2_ am
         have q8 : 0 ≤ ((rd l1 (ji3)) : Int) := of_decide_eq_true (g0_)
         have q9 : (rd l1 (ji3)) < (aa.length : Int) := of_decide_eq_true (g0_)
         obtain ⟨jl, cy8, cy9, ba9, vm, zt, zu⟩ := at_L1 bb.out (rd l1 (ji3)) q8 q9
         cases ba9
         replace vm := cl_ HB vm
         have bb0 := Aside0.mk zu
         have cz0 := Aside0.mk zt
         clear zu zt
         replace q8 := eq_true q8
         replace q9 := eq_true q9
         have ra : 0 ≤ (cq : Int) := of_decide_eq_true (g0_)
         have rb : cq < ((rd_L1 aa (rd l1 (ji3))).length : Int) := of_decide_eq_true (g0_)
         obtain ⟨cz1, bb1, vn⟩ := Kd.at_int bb0.out cq ra rb
         cases bb1
         replace vn := cl_ HB vn
         replace ra := eq_true ra
         replace rb := eq_true rb
         go_wp2; (repeat ((first | go_step3 | rw [Exit.noGoto_normal] | rw [Exit.noGoto_exit] | rw [Exit.noGoto_ret]); go_wp2))
         go_roundg k3
         case measure => have := HJ5.out; have := HJ17.out; have := HK3.out; omega
         case rel => exact ⟨(fd), (wrap64 (cq + 1)), (g2_), H', ⟨by have := HJ5.out; have := HJ17.out; have := HK3.out; omega⟩, ⟨uf4_ bh⟩, ⟨uf0_ am⟩, ⟨a6⟩⟩
        ·rw [if_neg ic] at H
         have al9 : ((rd (rd_L1 aa (rd l1 (ji3))) cq) == 0) = false := beq_eq_false_iff_ne.mpr ic
         have bx9 : ((rd (rd_L1 aa (rd l1 (ji3))) cq) != 0) = true := bne_iff_ne.mpr ic
         have H' := Aside0.mk H
         clear H
         obtain ⟨bb2, bb3, bb4, bb5⟩ := blk2_ am
         have q8 : 0 ≤ ((rd l1 (ji3)) : Int) := of_decide_eq_true (g0_)
         have q9 : (rd l1 (ji3)) < (aa.length : Int) := of_decide_eq_true (g0_)
         obtain ⟨jl, cy8, cy9, ba9, vm, zt, zu⟩ := at_L1 bb.out (rd l1 (ji3)) q8 q9
         cases ba9
         replace vm := cl_ HB vm
         have bb0 := Aside0.mk zu
         have cz0 := Aside0.mk zt
         clear zu zt
         replace q8 := eq_true q8
         replace q9 := eq_true q9
         have ra : 0 ≤ (cq : Int) := of_decide_eq_true (g0_)
         have rb : cq < ((rd_L1 aa (rd l1 (ji3))).length : Int) := of_decide_eq_true (g0_)
         obtain ⟨cz1, bb1, vn⟩ := Kd.at_int bb0.out cq ra rb
         cases bb1
         replace vn := cl_ HB vn
         replace ra := eq_true ra
         replace rb := eq_true rb
         go_wp2; (repeat ((first | go_step3 | rw [Exit.noGoto_normal] | rw [Exit.noGoto_exit] | rw [Exit.noGoto_ret]); go_wp2))
         go_loopg [8] k3 (fun kq v8 w' => ∃ (i0 : Int), v8 = .int .i64 i0 ∧ Aside0 (spec_l3Paths.l1 kq l1 fd (rd l1 (ji3)) cq i0 ab aa = some r) ∧ Aside0 (kq ≤ k3) ∧ Aside0 (Kd.N (Kd.slice 3 (Kd.int .i64)) 22 w' w.heap.size (fun k_ => (w.heap.size ≤ k_) ∧ k_ ≠ a8) u5 fd) ∧ Aside0 (w'.heap[a8]? = some (.cells #[(.slice ae ab.length ac), (.slice (some jl) aa.length af)] 25 (0, 0))) ∧ Aside0 (Below w.heap.size w w'))
         case atStart => exact ⟨(0), (g2_), H', ⟨Nat.le_refl _⟩, ⟨uf4_ bh⟩, ⟨uf0_ am⟩, ⟨a6⟩⟩
         case round =>
          clear H'
          (try clear c1); (try clear c2); (try clear p2); (try clear q2); (try clear zh); (try clear qi2); (try clear c3); (try clear c4); (try clear fw); (try clear c5); (try clear dv); (try clear p6); (try clear b9); (try clear fy); (try clear td); (try clear da); (try clear jc); (try clear cu); (try clear iu); (try clear eh); (try clear o5); (try clear yh); (try clear ez); (try clear mg); (try clear bq); (try clear fz); (try clear dd); (try clear ed); (try clear gr); (try clear fk); (try clear p24); (try clear q24); (try clear bx7); (try clear qi24); (try clear o4); (try clear p26); (try clear q26); (try clear cy3); (try clear qi26); (try clear n9); (try clear al7); (try clear bx8); (try clear j8); (try clear al8); (try clear j9); (try clear ba7); (try clear lv); (try clear ba8); (try clear j4); (try clear aj2); (try clear g2); (try clear yr); (try clear ic); (try clear al9); (try clear bx9); (try clear cy4); (try clear cy5); (try clear bb2); (try clear bb3); (try clear cy6); (try clear cy7); (try clear bb4); (try clear bb5); (try clear pk); (try clear qz); (try clear n7); (try clear q7); (try clear vl); (try clear vm); (try clear vn); (try clear p2); (try clear p24); (try clear my); (try clear te); (try clear tg); (try clear ti); (try clear p26); (try clear zq); (try clear q8); (try clear ra); (try clear p6); (try clear q2); (try clear q24); (try clear mz); (try clear tf); (try clear th); (try clear tj); (try clear q26); (try clear zr); (try clear q9); try clear rb
          obtain ⟨i0, rfl, HA, HK4, bh, am, HB⟩ := hrel
          cases gk with
          | zero => exact absurd HA.out (by simp [spec_l3Paths.l1])
          | succ k4 =>
           have H := HA.out
           clear HA
           simp only [spec_l3Paths.l1] at H
           by_cases kx : i0 < (l1.length : Int)
           ·rw [if_pos kx] at H
            have ax8 := decide_eq_true kx
            clear kx
            obtain ⟨tl, H⟩ := pos_ H
            have ee9 := decide_eq_true tl
            clear tl
            by_cases jh : (rd l1 i0) = cq
            ·rw [if_pos jh] at H
             have cz2 : ((rd l1 i0) == cq) = true := beq_iff_eq.mpr jh
             have cz3 : ((rd l1 i0) != cq) = false := bne_eq_false_iff_eq.mpr jh
             clear jh
             have H' := Aside0.mk H
             clear H
             have tm : 0 ≤ (i0 : Int) := of_decide_eq_true (g0_)
             have tn : i0 < (l1.length : Int) := of_decide_eq_true (g0_)
             obtain ⟨bb6, bb7, zv⟩ := Kd.at_int dc.out i0 tm tn
             obtain rfl : vk = bb6 := (by injection bb7)
             replace zv := cl_ HB zv
             replace tm := eq_true tm
             replace tn := eq_true tn
             go_wp2; (repeat ((first | go_step3 | rw [Exit.noGoto_normal] | rw [Exit.noGoto_exit] | rw [Exit.noGoto_ret]); go_wp2))
             go_roundg k4
             case measure => have := HJ5.out; have := HJ17.out; have := HK3.out; have := HK4.out; omega
             case rel => exact ⟨(fd), (wrap64 (cq + 1)), (g2_), H', ⟨g35_⟩, ⟨uf4_ bh⟩, ⟨uf0_ am⟩, ⟨a6⟩⟩
            ·rw [if_neg jh] at H
             have cz2 : ((rd l1 i0) == cq) = false := beq_eq_false_iff_ne.mpr jh
             have cz3 : ((rd l1 i0) != cq) = true := bne_iff_ne.mpr jh
             have H' := Aside0.mk H
             clear H
             have tm : 0 ≤ (i0 : Int) := of_decide_eq_true (g0_)
             have tn : i0 < (l1.length : Int) := of_decide_eq_true (g0_)
             obtain ⟨bb6, bb7, zv⟩ := Kd.at_int dc.out i0 tm tn
             obtain rfl : vk = bb6 := (by injection bb7)
             replace zv := cl_ HB zv
             replace tm := eq_true tm
             replace tn := eq_true tn
             go_wp2; (repeat ((first | go_step3 | rw [Exit.noGoto_normal] | rw [Exit.noGoto_exit] | rw [Exit.noGoto_ret]); go_wp2))
             go_roundg k4
             case measure => have := HJ5.out; have := HJ17.out; have := HK3.out; have := HK4.out; omega
             case rel => exact ⟨(wrap64 (i0 + 1)), (g2_), H', ⟨g35_⟩, ⟨uf4_ bh⟩, ⟨uf0_ am⟩, ⟨a6⟩⟩
           ·rw [if_neg kx] at H
            have ax8 := decide_eq_false kx
            clear kx
            obtain ⟨pi, hy265⟩ : ∃ y_ : List Int, y_ = (([] : List Int)) := ⟨_, rfl⟩
            replace H : (if pi.length + l1.length < 17592186044416 then ((some (pi ++ l1 : List Int)).bind fun j7 => ((some (([cq] : List Int) : List Int)).bind fun f3 => (if j7.length + f3.length < 17592186044416 then ((spec_l3Paths.f k4 ab aa (j7 ++ f3)).bind fun g3 => (if fd.length + g3.length < 5864062014805 then (spec_l3Paths.l0 k4 l1 (fd ++ g3) (rd l1 (ji3)) (wrap64 (cq + 1)) ab aa) else (none))) else (none)))) else (none)) = some r := by first | (rw [hy265]; with_reducible exact H) | (have H2_ := (Option.bind_some _ _).symm.trans H; rw [hy265]; with_reducible exact H2_) | (have H2_ := (Option.bind_some _ _).symm.trans H; with_reducible exact H2_) | with_reducible exact H | (rw [hy265]; exact H) | exact H
            have am0 := Aside0.mk hy265
            clear hy265
            obtain ⟨c42, H⟩ := pos_ H
            have bb8 := Aside0.mk c42
            clear c42
            obtain ⟨j7, hy268⟩ : ∃ y_ : List Int, y_ = (pi ++ l1) := ⟨_, rfl⟩
            replace H : ((some (([cq] : List Int) : List Int)).bind fun f3 => (if j7.length + f3.length < 17592186044416 then ((spec_l3Paths.f k4 ab aa (j7 ++ f3)).bind fun g3 => (if fd.length + g3.length < 5864062014805 then (spec_l3Paths.l0 k4 l1 (fd ++ g3) (rd l1 (ji3)) (wrap64 (cq + 1)) ab aa) else (none))) else (none))) = some r := by first | (rw [hy268]; with_reducible exact H) | (have H2_ := (Option.bind_some _ _).symm.trans H; rw [hy268]; with_reducible exact H2_) | (have H2_ := (Option.bind_some _ _).symm.trans H; with_reducible exact H2_) | with_reducible exact H | (rw [hy268]; exact H) | exact H
            have bb9 := Aside0.mk hy268
            clear hy268
            obtain ⟨f3, hy271⟩ : ∃ y_ : List Int, y_ = (([cq] : List Int)) := ⟨_, rfl⟩
            replace H : (if j7.length + f3.length < 17592186044416 then ((spec_l3Paths.f k4 ab aa (j7 ++ f3)).bind fun g3 => (if fd.length + g3.length < 5864062014805 then (spec_l3Paths.l0 k4 l1 (fd ++ g3) (rd l1 (ji3)) (wrap64 (cq + 1)) ab aa) else (none))) else (none)) = some r := by first | (rw [hy271]; with_reducible exact H) | (have H2_ := (Option.bind_some _ _).symm.trans H; rw [hy271]; with_reducible exact H2_) | (have H2_ := (Option.bind_some _ _).symm.trans H; with_reducible exact H2_) | with_reducible exact H | (rw [hy271]; exact H) | exact H
            have vp := Aside0.mk hy271
            clear hy271
            obtain ⟨tp, H⟩ := pos_ H
            have cz4 := Aside0.mk tp
            clear tp
            obtain ⟨rc, hy274⟩ : ∃ y_ : List Int, y_ = (j7 ++ f3) := ⟨_, rfl⟩
            replace H : ((spec_l3Paths.f k4 ab aa rc).bind fun g3 => (if fd.length + g3.length < 5864062014805 then (spec_l3Paths.l0 k4 l1 (fd ++ g3) (rd l1 (ji3)) (wrap64 (cq + 1)) ab aa) else (none))) = some r := by first | (rw [hy274]; with_reducible exact H) | (have H2_ := (Option.bind_some _ _).symm.trans H; rw [hy274]; with_reducible exact H2_) | (have H2_ := (Option.bind_some _ _).symm.trans H; with_reducible exact H2_) | with_reducible exact H | (rw [hy274]; exact H) | exact H
            have cz5 := Aside0.mk hy274
            clear hy274
            obtain ⟨g3, zw, H⟩ := bind_ H
            obtain ⟨vg, H⟩ := pos_ H
            have ay0 := Aside0.mk vg
            clear vg
            obtain ⟨by0, hy280⟩ : ∃ y_ : List (List Int), y_ = (fd ++ g3) := ⟨_, rfl⟩
            replace H : (spec_l3Paths.l0 k4 l1 by0 (rd l1 (ji3)) (wrap64 (cq + 1)) ab aa) = some r := by first | (rw [hy280]; with_reducible exact H) | (have H2_ := (Option.bind_some _ _).symm.trans H; rw [hy280]; with_reducible exact H2_) | (have H2_ := (Option.bind_some _ _).symm.trans H; with_reducible exact H2_) | with_reducible exact H | (rw [hy280]; exact H) | exact H
            have cz6 := Aside0.mk hy280
            clear hy280
            have H' := Aside0.mk H
            clear H
            obtain ⟨vq, vr, cz7⟩ := Kd.N_slice bh.out
            subst cz7
            try go_wp2
            replace bh := Aside0.mk (Kd.N_drew bh.out)
            replace am := Aside0.mk (blk_drew am.out)
            replace HB := Aside0.mk (below_drew1 HB.out)
            refine start_ (n := 11) (S := fun w' => w'.cell? ⟨a8, 0, none⟩ = some (.slice ae ab.length ac) ∧ w'.cell? ⟨a8, 1, none⟩ = some (.slice (some jl) aa.length af)) (ds := []) (tl_ 11 0) (g1_) rfl (g1_) ⟨(blk_cell am.out 0).trans rfl, (blk_cell am.out 1).trans rfl⟩ (fun hHeld => ?_); refine with_tabW spec_l3Paths.tab13 spec_l3Paths.bits13 (fun HT_ HW_ => ?_)
            generalize wr.drew = w47 at bh am HB hHeld ⊢
            refine pw_ 0 70 (tl_ 11 1) rfl rfl ?_
            refine pw_ 3 73 (tl_ 11 9) rfl rfl ?_
            refine pw_ 5 75 (tl_ 11 41) rfl rfl ?_
            refine tk0_ 1 71 (tl_ 11 43) rfl rfl hHeld ?_
            refine join_ (σ := Value × Value × Value) 4 (tl_ 11 127) (fun s_ => [(72, s_.1), (74, s_.2.1), (76, s_.2.2)]) (fun s_ w' => (w'.cell? ⟨a8, 0, none⟩ = some (.slice ae ab.length ac) ∧ w'.cell? ⟨a8, 1, none⟩ = some (.slice (some jl) aa.length af)) ∧ (Kd.R (Kd.int .i64) 3 w' w.heap.size (fun k_ => (w.heap.size ≤ k_) ∧ some k_ ≠ (s_.2.2 : Value).ownBlock) s_.2.1 j7) ∧ (Kd.R (Kd.int .i64) 3 w' w.heap.size (fun k_ => (w.heap.size ≤ k_) ∧ some k_ ≠ (s_.2.1 : Value).ownBlock) s_.2.2 f3) ∧ (Kd.N (Kd.slice 3 (Kd.int .i64)) 22 w' w.heap.size (fun k_ => (w.heap.size ≤ k_) ∧ some k_ ≠ (s_.2.1 : Value).ownBlock ∧ some k_ ≠ (s_.2.2 : Value).ownBlock ∧ k_ ≠ a8) (.slice vq fd.length vr) fd) ∧ (w'.heap[a8]? = some (.cells #[.slice ae ab.length ac, .slice (some jl) aa.length af] 25 (0, 0))) ∧ (Below w.heap.size w w')) ?_ ?_
            rotate_left
            ·intro hCont
             refine two_ (i := 2) (j := 6) (Ni := some 72) (Nj := some 76) (tl_ 11 47) (tl_ 11 107) rfl rfl rfl rfl (two_of HT_.out (g1_)) (by decide) (by decide) (fun K hK => ?_) (fun K hK => ?_)
             ·skip
              refine Kd.R_lit_step (Kd.int .i64) _ 3 ?hg (N := 72) ?hd (xs := ([] : List Int)) (inner := []) (ok := fun _ => True) (okp := fun _ => True) ?hr ?hp (fun _ hk => hk) trivial (Below.refl _ _) (Nat.le_refl _) (by simp) ?_; (case hd => rfl); (case hg => rfl); (case hr => first | (go_simp; done) | (go_simp; rfl)); (case hp => exact (Reps.none _ _))
              intro re w48 k6 hb hg_ hnew_
              clear hg_ hnew_
              (first | rw [← am0.out] at k6 | (simp only [Int.reduceToNat] at k6; rw [← am0.out] at k6))
              replace bh := Aside0.mk (Kd.N_elder' (uf4_ bh) (Kd.R_base k6) hb)
              have k7 := Aside0.mk (Kd.R_lower (Kd.R_newM (M := fun k_ => (w.heap.size ≤ k_)) k6 (below_size (a6)) (fun k_ h_ => h_)) (below_size (a6)))
              replace am := bb_ am hb
              replace HB := Aside0.mk (below_step (a6) hb)
              clear hb k6
              refine hK.out _ _ ⟨(blk_cell am.out 0).trans rfl, (blk_cell am.out 1).trans rfl⟩ (fun hHeld => ?_)
              clear hK K
              refine nm_ ?_
              refine two_ (i := 4) (j := 6) (Ni := some 74) (Nj := some 76) (tl_ 11 63) (tl_ 11 111) rfl rfl rfl rfl (two_of HT_.out (g1_)) (by decide) (by decide) (fun K hK => ?_) (fun K hK => ?_)
              ·skip
               refine Kd.R_append_rows_step (Kd.int .i64) (w0 := w) w.heap.size (by rfl) (.tmp 72) (.tmp 73) 22 3 (.int .i64 0) 8 rfl Try.underlying22 info3 rfl (by decide) (by omega) re pi l1 _ _ _ (fun k_ => (w.heap.size ≤ k_)) (fun _ => False) rfl rfl ?aO ?aR (fun _ _ h => h) (fun _ h => h.elim) ?aF ?aB ?aS ?aL ?_
               (case aR => exact uf2_ dc)
               (case aB => exact (a6))
               (case aF => exact (fun k_ hk => (Nat.le_trans (below_size (a6)) hk)))
               (case aO => exact (by (with_reducible repeat (first | apply Kd.R_alloc | apply Kd.R_drewN | apply Kd.R_drew)); exact Kd.R_mono k7.out (fun _ hk => hk.1)))
               (case aS => exact (below_size (a6)))
               (case aL => have := bb8.out; omega)
               intro oa w50 ho hb hg hat
               rw [← bb9.out] at ho
               replace bh := Aside0.mk (Kd.N_afterv (ok := (fun k_ => (w.heap.size ≤ k_) ∧ k_ ≠ a8)) (uf4_ bh) hg hat)
               replace am := Aside0.mk (blk_grown (g := a8) (o := .cells #[.slice ae ab.length ac, .slice (some jl) aa.length af] 25 (0, 0)) (uf0_ am) hg (Kd.R_ne k7.out am.out (by decide)))
               replace HB := Aside0.mk (hb)
               have lw := Aside0.mk (ho)
               clear k7
               clear ho hb hg hat
               refine hK.out _ _ ⟨(blk_cell am.out 0).trans rfl, (blk_cell am.out 1).trans rfl⟩ (fun hHeld => ?_)
               clear hK K
               refine nm_ ?_
               refine one_ (i := 6) (N := some 76) (tl_ 11 127) rfl rfl (one_of HT_.out (g1_)) (by decide) (fun K hK => ?_)
               refine Kd.R_lit_step (Kd.int .i64) _ 3 ?hg (N := 76) ?hd (xs := ([cq] : List Int)) (inner := [.int .i64 cq]) (ok := fun _ => True) (okp := fun _ => True) ?hr ?hp (fun _ hk => hk) trivial (Below.refl _ _) (Nat.le_refl _) (by simp) ?_; (case hd => rfl); (case hg => rfl); (case hr => first | (go_simp; done) | (go_simp; rfl)); (case hp => exact (Reps.one (show Kd.M (Kd.int .i64) _ _ _ cq [.int .i64 cq] from rfl) (Reps.none _ _)))
               intro k8 w51 tq hb hg_ hnew_
               clear hg_ hnew_
               (first | rw [← vp.out] at tq | (simp only [Int.reduceToNat] at tq; rw [← vp.out] at tq))
               replace bh := Aside0.mk (Kd.N_elder' (uf4_ bh) (Kd.R_base tq) hb)
               have fm := Aside0.mk (Kd.R_lower (Kd.R_new' (Kd.R_newM (M := fun k_ => (w.heap.size ≤ k_)) tq (below_size (a6)) (fun k_ h_ => h_)) (Kd.R_lt (uf1_ lw))) (below_size (a6)))
               replace lw := Aside0.mk (Kd.R_elder' (uf1_ lw) (Kd.R_base tq) hb)
               replace am := bb_ am hb
               replace HB := Aside0.mk (below_step (a6) hb)
               clear hb tq
               refine hK.out _ _ ⟨(blk_cell am.out 0).trans rfl, (blk_cell am.out 1).trans rfl⟩ (fun hHeld => ?_)
               clear hK K
               refine nm_ ?_
               exact norm_ (g18_) (hCont (re, oa, k8) _ ⟨hHeld, (uf1_ lw), (g51_), (by (with_reducible repeat (first | apply Kd.N_alloc | apply Kd.N_drewN | apply Kd.N_drew)); exact Kd.N_mono bh.out (fun _ hk => ⟨hk.1.1.1, ⟨hk.1.2, ⟨hk.2, hk.1.1.2⟩⟩⟩)), (uf0_ am), (a6)⟩)
              ·skip
               refine Kd.R_lit_step (Kd.int .i64) _ 3 ?hg (N := 76) ?hd (xs := ([cq] : List Int)) (inner := [.int .i64 cq]) (ok := fun _ => True) (okp := fun _ => True) ?hr ?hp (fun _ hk => hk) trivial (Below.refl _ _) (Nat.le_refl _) (by simp) ?_; (case hd => rfl); (case hg => rfl); (case hr => first | (go_simp; done) | (go_simp; rfl)); (case hp => exact (Reps.one (show Kd.M (Kd.int .i64) _ _ _ cq [.int .i64 cq] from rfl) (Reps.none _ _)))
               intro k8 w50 jm hb hg_ hnew_
               clear hg_ hnew_
               (first | rw [← vp.out] at jm | (simp only [Int.reduceToNat] at jm; rw [← vp.out] at jm))
               replace bh := Aside0.mk (Kd.N_elder' (uf4_ bh) (Kd.R_base jm) hb)
               have fm := Aside0.mk (Kd.R_lower (Kd.R_new' (Kd.R_newM (M := fun k_ => (w.heap.size ≤ k_)) jm (below_size (a6)) (fun k_ h_ => h_)) (Kd.R_lt (uf1_ k7))) (below_size (a6)))
               replace k7 := Aside0.mk (Kd.R_elder' (uf1_ k7) (Kd.R_base jm) hb)
               replace am := bb_ am hb
               replace HB := Aside0.mk (below_step (a6) hb)
               clear hb jm
               refine hK.out _ _ ⟨(blk_cell am.out 0).trans rfl, (blk_cell am.out 1).trans rfl⟩ (fun hHeld => ?_)
               clear hK K
               refine nm_ ?_
               refine one_ (i := 4) (N := some 74) (tl_ 11 127) rfl rfl (one_of HT_.out (g1_)) (by decide) (fun K hK => ?_)
               refine Kd.R_append_rows_step (Kd.int .i64) (w0 := w) w.heap.size (by rfl) (.tmp 72) (.tmp 73) 22 3 (.int .i64 0) 8 rfl Try.underlying22 info3 rfl (by decide) (by omega) re pi l1 _ _ _ (fun k_ => (w.heap.size ≤ k_) ∧ some k_ ≠ (k8 : Value).ownBlock) (fun _ => False) rfl rfl ?aO ?aR (fun _ _ h => h) (fun _ h => h.elim) ?aF ?aB ?aS ?aL ?_
               (case aR => exact uf2_ dc)
               (case aB => exact (a6))
               (case aF => exact (fun k_ hk => ⟨(Nat.le_trans (below_size (a6)) hk), Kd.fresh' (Kd.R_lt (uf1_ fm)) k_ hk⟩))
               (case aO => exact (by (with_reducible repeat (first | apply Kd.R_alloc | apply Kd.R_drewN | apply Kd.R_drew)); exact Kd.R_mono k7.out (fun _ hk => ⟨hk.1.1, hk.2⟩)))
               (case aS => exact (below_size (a6)))
               (case aL => have := bb8.out; omega)
               intro oa w52 ho hb hg hat
               rw [← bb9.out] at ho
               replace bh := Aside0.mk (Kd.N_afterv (ok := (fun k_ => (w.heap.size ≤ k_) ∧ some k_ ≠ (k8 : Value).ownBlock ∧ k_ ≠ a8)) (by (with_reducible repeat (first | apply Kd.N_alloc | apply Kd.N_drewN | apply Kd.N_drew)); exact Kd.N_mono bh.out (fun _ hk => ⟨⟨hk.1.1.1, ⟨hk.2, hk.1.1.2⟩⟩, hk.1.2⟩)) hg hat)
               replace am := Aside0.mk (blk_grown (g := a8) (o := .cells #[.slice ae ab.length ac, .slice (some jl) aa.length af] 25 (0, 0)) (uf0_ am) hg (Kd.R_ne k7.out am.out (by decide)))
               replace fm := Aside0.mk (Kd.R_after (ok := (fun k_ => (w.heap.size ≤ k_))) (g51_) hg hat)
               replace HB := Aside0.mk (hb)
               have lw := Aside0.mk (ho)
               clear k7
               clear ho hb hg hat
               refine hK.out _ _ ⟨(blk_cell am.out 0).trans rfl, (blk_cell am.out 1).trans rfl⟩ (fun hHeld => ?_)
               clear hK K
               refine nm_ ?_
               exact norm_ (g18_) (hCont (re, oa, k8) _ ⟨hHeld, (uf1_ lw), (uf1_ fm), (by (with_reducible repeat (first | apply Kd.N_alloc | apply Kd.N_drewN | apply Kd.N_drew)); exact Kd.N_mono bh.out (fun _ hk => ⟨hk.1.1, ⟨hk.2, ⟨hk.1.2.1, hk.1.2.2⟩⟩⟩)), (uf0_ am), (a6)⟩)
             ·skip
              refine Kd.R_lit_step (Kd.int .i64) _ 3 ?hg (N := 76) ?hd (xs := ([cq] : List Int)) (inner := [.int .i64 cq]) (ok := fun _ => True) (okp := fun _ => True) ?hr ?hp (fun _ hk => hk) trivial (Below.refl _ _) (Nat.le_refl _) (by simp) ?_; (case hd => rfl); (case hg => rfl); (case hr => first | (go_simp; done) | (go_simp; rfl)); (case hp => exact (Reps.one (show Kd.M (Kd.int .i64) _ _ _ cq [.int .i64 cq] from rfl) (Reps.none _ _)))
              intro k8 w48 k6 hb hg_ hnew_
              clear hg_ hnew_
              (first | rw [← vp.out] at k6 | (simp only [Int.reduceToNat] at k6; rw [← vp.out] at k6))
              replace bh := Aside0.mk (Kd.N_elder' (uf4_ bh) (Kd.R_base k6) hb)
              have fm := Aside0.mk (Kd.R_lower (Kd.R_newM (M := fun k_ => (w.heap.size ≤ k_)) k6 (below_size (a6)) (fun k_ h_ => h_)) (below_size (a6)))
              replace am := bb_ am hb
              replace HB := Aside0.mk (below_step (a6) hb)
              clear hb k6
              refine hK.out _ _ ⟨(blk_cell am.out 0).trans rfl, (blk_cell am.out 1).trans rfl⟩ (fun hHeld => ?_)
              clear hK K
              refine nm_ ?_
              refine one_ (i := 2) (N := some 72) (tl_ 11 111) rfl rfl (one_of HT_.out (g1_)) (by decide) (fun K hK => ?_)
              refine Kd.R_lit_step (Kd.int .i64) _ 3 ?hg (N := 72) ?hd (xs := ([] : List Int)) (inner := []) (ok := fun _ => True) (okp := fun _ => True) ?hr ?hp (fun _ hk => hk) trivial (Below.refl _ _) (Nat.le_refl _) (by simp) ?_; (case hd => rfl); (case hg => rfl); (case hr => first | (go_simp; done) | (go_simp; rfl)); (case hp => exact (Reps.none _ _))
              intro re w50 jm hb hg_ hnew_
              clear hg_ hnew_
              (first | rw [← am0.out] at jm | (simp only [Int.reduceToNat] at jm; rw [← am0.out] at jm))
              replace bh := Aside0.mk (Kd.N_elder' (uf4_ bh) (Kd.R_base jm) hb)
              have k7 := Aside0.mk (Kd.R_lower (Kd.R_new' (Kd.R_newM (M := fun k_ => (w.heap.size ≤ k_)) jm (below_size (a6)) (fun k_ h_ => h_)) (Kd.R_lt (uf1_ fm))) (below_size (a6)))
              replace fm := Aside0.mk (Kd.R_elder' (uf1_ fm) (Kd.R_base jm) hb)
              replace am := bb_ am hb
              replace HB := Aside0.mk (below_step (a6) hb)
              clear hb jm
              refine hK.out _ _ ⟨(blk_cell am.out 0).trans rfl, (blk_cell am.out 1).trans rfl⟩ (fun hHeld => ?_)
              clear hK K
              refine nm_ ?_
              refine one_ (i := 4) (N := some 74) (tl_ 11 127) rfl rfl (one_of HT_.out (g1_)) (by decide) (fun K hK => ?_)
              refine Kd.R_append_rows_step (Kd.int .i64) (w0 := w) w.heap.size (by rfl) (.tmp 72) (.tmp 73) 22 3 (.int .i64 0) 8 rfl Try.underlying22 info3 rfl (by decide) (by omega) re pi l1 _ _ _ (fun k_ => (w.heap.size ≤ k_) ∧ some k_ ≠ (k8 : Value).ownBlock) (fun _ => False) rfl rfl ?aO ?aR (fun _ _ h => h) (fun _ h => h.elim) ?aF ?aB ?aS ?aL ?_
              (case aR => exact uf2_ dc)
              (case aB => exact (a6))
              (case aF => exact (fun k_ hk => ⟨(Nat.le_trans (below_size (a6)) hk), Kd.fresh' (Kd.R_lt (uf1_ fm)) k_ hk⟩))
              (case aO => exact (by (with_reducible repeat (first | apply Kd.R_alloc | apply Kd.R_drewN | apply Kd.R_drew)); exact Kd.R_mono k7.out (fun _ hk => ⟨hk.1.1, hk.2⟩)))
              (case aS => exact (below_size (a6)))
              (case aL => have := bb8.out; omega)
              intro oa w52 ho hb hg hat
              rw [← bb9.out] at ho
              replace bh := Aside0.mk (Kd.N_afterv (ok := (fun k_ => (w.heap.size ≤ k_) ∧ some k_ ≠ (k8 : Value).ownBlock ∧ k_ ≠ a8)) (by (with_reducible repeat (first | apply Kd.N_alloc | apply Kd.N_drewN | apply Kd.N_drew)); exact Kd.N_mono bh.out (fun _ hk => ⟨⟨hk.1.1.1, ⟨hk.1.2, hk.1.1.2⟩⟩, hk.2⟩)) hg hat)
              replace am := Aside0.mk (blk_grown (g := a8) (o := .cells #[.slice ae ab.length ac, .slice (some jl) aa.length af] 25 (0, 0)) (uf0_ am) hg (Kd.R_ne k7.out am.out (by decide)))
              replace fm := Aside0.mk (Kd.R_after (ok := (fun k_ => (w.heap.size ≤ k_))) (g51_) hg hat)
              replace HB := Aside0.mk (hb)
              have lw := Aside0.mk (ho)
              clear k7
              clear ho hb hg hat
              refine hK.out _ _ ⟨(blk_cell am.out 0).trans rfl, (blk_cell am.out 1).trans rfl⟩ (fun hHeld => ?_)
              clear hK K
              refine nm_ ?_
              exact norm_ (g18_) (hCont (re, oa, k8) _ ⟨hHeld, (uf1_ lw), (uf1_ fm), (by (with_reducible repeat (first | apply Kd.N_alloc | apply Kd.N_drewN | apply Kd.N_drew)); exact Kd.N_mono bh.out (fun _ hk => ⟨hk.1.1, ⟨hk.2, ⟨hk.1.2.1, hk.1.2.2⟩⟩⟩)), (uf0_ am), (a6)⟩)
            rintro ⟨re, oa, k8⟩ pn ⟨hS_, h0_, h1_, h2_, h3_, h4_⟩
            have lw : Aside0 (Kd.R (Kd.int .i64) 3 pn w.heap.size (fun k_ => (w.heap.size ≤ k_) ∧ some k_ ≠ (k8 : Value).ownBlock) oa j7) := ⟨h0_⟩
            have fm : Aside0 (Kd.R (Kd.int .i64) 3 pn w.heap.size (fun k_ => (w.heap.size ≤ k_) ∧ some k_ ≠ (oa : Value).ownBlock) k8 f3) := ⟨h1_⟩
            replace bh : Aside0 (Kd.N (Kd.slice 3 (Kd.int .i64)) 22 pn w.heap.size (fun k_ => (w.heap.size ≤ k_) ∧ some k_ ≠ (oa : Value).ownBlock ∧ some k_ ≠ (k8 : Value).ownBlock ∧ k_ ≠ a8) (.slice vq fd.length vr) fd) := ⟨h2_⟩
            replace am : Aside0 (pn.heap[a8]? = some (.cells #[.slice ae ab.length ac, .slice (some jl) aa.length af] 25 (0, 0))) := ⟨h3_⟩
            replace HB : Aside0 (Below w.heap.size w pn) := ⟨h4_⟩
            clear h0_ h1_ h2_ h3_ h4_
            have hHeld : pn.cell? ⟨a8, 0, none⟩ = some (.slice ae ab.length ac) ∧ pn.cell? ⟨a8, 1, none⟩ = some (.slice (some jl) aa.length af) := hS_
            obtain ⟨tr, ts, by1⟩ := Kd.R_slice fm.out
            (first | subst by1 | (injection by1 with f1_ f2_ f3_; have f4_ := f1_.symm; have f5_ := f3_.symm; clear f1_ f2_ f3_; subst f4_; subst f5_))
            refine norm_ (a' := ?_) ?_ ?_
            rotate_left
            ·simp only [putAll, Act.put, List.setIfInBounds_toArray, List.set_cons_zero, List.set_cons_succ]
             rfl
            refine one_ (i := 7) (N := some 77) (tl_ 11 255) rfl rfl (one_of HT_.out (g1_)) (by decide) (fun K hK => ?_)
            refine Kd.R_append_rows_step (Kd.int .i64) (w0 := w) w.heap.size (by rfl) (.tmp 74) (.tmp 76) 22 3 (.int .i64 0) 8 rfl Try.underlying22 info3 rfl (by decide) (by omega) oa j7 f3 _ _ _ (fun k_ => (w.heap.size ≤ k_) ∧ some k_ ≠ (.slice tr f3.length ts : Value).ownBlock) (fun _ => False) rfl rfl ?aO ?aR (fun _ _ h => h) (fun _ h => h.elim) ?aF ?aB ?aS ?aL ?_
            (case aR => repeat (first | exact (Kd.R_reads' fm.out).2.2 | (with_reducible refine Kd.C_alloc ?_ _) | (with_reducible refine Kd.C_drewN ?_ _) | (with_reducible refine Kd.C_drew ?_)))
            (case aB => exact (a6))
            (case aF => exact (fun k_ hk => ⟨(Nat.le_trans (below_size (a6)) hk), Kd.fresh' (Kd.R_lt (uf1_ fm)) k_ hk⟩))
            (case aO => exact (uf1_ lw))
            (case aS => exact (below_size (a6)))
            (case aL => have := cz4.out; omega)
            intro ef0 w54 ho hb hg hat
            rw [← cz5.out] at ho
            replace bh := Aside0.mk (Kd.N_afterv (ok := (fun k_ => (w.heap.size ≤ k_) ∧ some k_ ≠ (.slice tr f3.length ts : Value).ownBlock ∧ k_ ≠ a8)) (by (with_reducible repeat (first | apply Kd.N_alloc | apply Kd.N_drewN | apply Kd.N_drew)); exact Kd.N_mono bh.out (fun _ hk => ⟨⟨hk.1, ⟨hk.2.2.1, hk.2.2.2⟩⟩, hk.2.1⟩)) hg hat)
            replace am := Aside0.mk (blk_grown (g := a8) (o := .cells #[.slice ae ab.length ac, .slice (some jl) aa.length af] 25 (0, 0)) (uf0_ am) hg (Kd.R_ne lw.out am.out (by decide)))
            replace fm := Aside0.mk (Kd.R_after (ok := (fun k_ => (w.heap.size ≤ k_))) (uf1_ fm) hg hat)
            replace HB := Aside0.mk (hb)
            have po := Aside0.mk (ho)
            clear lw
            clear ho hb hg hat
            obtain ⟨vs, vt, by2⟩ := Kd.R_slice po.out
            (first | subst by2 | (injection by2 with f1_ f2_ f3_; have f4_ := f1_.symm; have f5_ := f3_.symm; clear f1_ f2_ f3_; subst f4_; subst f5_))
            refine hK.out _ _ ⟨(blk_cell am.out 0).trans rfl, (blk_cell am.out 1).trans rfl⟩ (fun hHeld => ?_)
            clear hK K
            refine nm_ ?_
            refine one_ (i := 8) (N := some 78) (tl_ 11 511) rfl rfl (one_of HT_.out (g1_)) (by decide) (fun K hK => ?_)
            refine goes_ Try.func113 (g1_) rfl #[.agg #[.slice ae ab.length ac, .slice (some jl) aa.length af], .slice vs rc.length vt] (by rfl) rfl rfl (g3_) ?_
            with_reducible refine (ih k4 (g35_) _ _ ab _ _ aa _ _ rc g3 _ ?side1 ?side2 ?side3 ?side4 ?side5 ?side6 zw.out).mono ?_
            (case side1 => exact uf2_ bg)
            (case side2 => exact bx.out)
            (case side3 => exact uf2_ bb)
            (case side4 => exact b2.out)
            (case side5 => repeat (first | exact (Kd.R_reads' po.out).2.2 | (with_reducible refine Kd.C_alloc ?_ _) | (with_reducible refine Kd.C_drewN ?_ _) | (with_reducible refine Kd.C_drew ?_)))
            (case side6 => exact (Kd.R_reads' po.out).2.1)
            rintro e w57 ⟨ef1, rfl, aj, hb⟩
            refine ⟨_, rfl, ?_⟩
            have am1 := Aside0.mk (Kd.N_lower (Kd.N_mono (ok' := fun k_ => (w.heap.size ≤ k_) ∧ some k_ ≠ (.slice vq fd.length vr : Value).ownBlock ∧ some k_ ≠ (.slice tr f3.length ts : Value).ownBlock ∧ some k_ ≠ (.slice vs rc.length vt : Value).ownBlock ∧ k_ ≠ a8) aj (fun k_ hk_ => ⟨(Nat.le_trans (below_size (a6)) hk_), (Kd.fresh' (Kd.N_lt (uf4_ bh)) k_ hk_), (Kd.fresh' (Kd.R_lt (uf1_ fm)) k_ hk_), (Kd.fresh' (Kd.R_lt (uf1_ po)) k_ hk_), (Kd.freshB (g := a8) (o := .cells #[.slice ae ab.length ac, .slice (some jl) aa.length af] 25 (0, 0)) (uf0_ am) k_ hk_)⟩)) (below_size (a6)))
            replace bh := Aside0.mk (Kd.N_elder' (uf4_ bh) (Kd.N_base aj) hb)
            replace fm := Aside0.mk (Kd.R_below (uf1_ fm) hb)
            replace po := Aside0.mk (Kd.R_below (uf1_ po) hb)
            replace am := bb_ am hb
            replace HB := Aside0.mk (below_step (a6) hb)
            (try clear hb)
            (try clear hk hi)
            (try clear aj)
            obtain ⟨ef2, ef3, by3⟩ := Kd.N_slice am1.out
            (first | subst by3 | (injection by3 with f1_ f2_ f3_; have f4_ := f1_.symm; have f5_ := f3_.symm; clear f1_ f2_ f3_; subst f4_; subst f5_))
            refine hK.out _ _ ⟨(blk_cell am.out 0).trans rfl, (blk_cell am.out 1).trans rfl⟩ (fun hHeld => ?_)
            clear hK K
            refine nm_ ?_
            refine one_ (i := 9) (N := some 79) (tl_ 11 1023) rfl rfl (one_of HT_.out (g1_)) (by decide) (fun K hK => ?_)
            refine Kd.N_append_rows_step (Kd.slice 3 (Kd.int .i64)) (w0 := w) w.heap.size (by rfl) (.tmp 70) (.tmp 78) 23 22 (.slice none 0 0) 24 rfl Try.underlying23 info22 rfl (by decide) (by omega) (.slice vq fd.length vr) fd g3 _ _ _ (fun k_ => (w.heap.size ≤ k_) ∧ some k_ ≠ (.slice tr f3.length ts : Value).ownBlock ∧ some k_ ≠ (.slice vs rc.length vt : Value).ownBlock ∧ k_ ≠ a8) (fun k_ => ((fun k_ => (w.heap.size ≤ k_) ∧ some k_ ≠ (.slice tr f3.length ts : Value).ownBlock ∧ some k_ ≠ (.slice vs rc.length vt : Value).ownBlock ∧ k_ ≠ a8)) k_ ∧ some k_ ≠ (.slice vq fd.length vr : Value).ownBlock) rfl rfl ?aO ?aR (fun _ hk => hk) ?aF ?aB ?aS ?aL ?_
            (case aR => exact (by skip; exact Kd.N_F (Kd.N_mono (ok' := (fun k_ => ((fun k_ => (w.heap.size ≤ k_) ∧ some k_ ≠ (.slice tr f3.length ts : Value).ownBlock ∧ some k_ ≠ (.slice vs rc.length vt : Value).ownBlock ∧ k_ ≠ a8)) k_ ∧ some k_ ≠ (.slice vq fd.length vr : Value).ownBlock)) (am1.out) (fun k_ hk => ⟨⟨hk.1, ⟨hk.2.2.1, ⟨hk.2.2.2.1, hk.2.2.2.2⟩⟩⟩, hk.2.1⟩))))
            (case aB => exact (a6))
            (case aF => exact (fun k_ hk => ⟨(Nat.le_trans (below_size (a6)) hk), Kd.fresh' (Kd.R_lt (uf1_ fm)) k_ hk, Kd.fresh' (Kd.R_lt (uf1_ po)) k_ hk, Kd.freshB (g := a8) (o := .cells #[.slice ae ab.length ac, .slice (some jl) aa.length af] 25 (0, 0)) (uf0_ am) k_ hk⟩))
            (case aO => exact (by (with_reducible repeat (first | apply Kd.N_alloc | apply Kd.N_drewN | apply Kd.N_drew)); exact Kd.N_mono bh.out (fun _ hk => ⟨hk.1.1.1, ⟨hk.1.1.2.1, ⟨hk.1.2, hk.1.1.2.2⟩⟩⟩)))
            (case aS => exact (below_size (a6)))
            (case aL => have := ay0.out; omega)
            intro ef4 w58 ho hb hg hat
            rw [← cz6.out] at ho
            replace am := Aside0.mk (blk_grown (g := a8) (o := .cells #[.slice ae ab.length ac, .slice (some jl) aa.length af] 25 (0, 0)) (uf0_ am) hg (Kd.N_ne bh.out am.out (by decide)))
            replace fm := Aside0.mk (Kd.R_over' (uf1_ fm) (Kd.N_typed (uf4_ bh)) (by decide) hg)
            replace po := Aside0.mk (Kd.R_over' (uf1_ po) (Kd.N_typed (uf4_ bh)) (by decide) hg)
            replace am1 := Aside0.mk (Kd.N_afterv (ok := (fun k_ => (w.heap.size ≤ k_) ∧ some k_ ≠ (.slice tr f3.length ts : Value).ownBlock ∧ some k_ ≠ (.slice vs rc.length vt : Value).ownBlock ∧ k_ ≠ a8)) (by (with_reducible repeat (first | apply Kd.N_alloc | apply Kd.N_drewN | apply Kd.N_drew)); exact Kd.N_mono am1.out (fun _ hk => ⟨⟨hk.1, ⟨hk.2.2.1, ⟨hk.2.2.2.1, hk.2.2.2.2⟩⟩⟩, hk.2.1⟩)) hg hat)
            replace HB := Aside0.mk (hb)
            have cz8 := Aside0.mk (ho)
            clear bh
            clear ho hb hg hat
            refine hK.out _ _ ⟨(blk_cell am.out 0).trans rfl, (blk_cell am.out 1).trans rfl⟩ (fun hHeld => ?_)
            clear hK K
            refine nm_ ?_
            refine pw_ 10 5 (tl_ 11 2047) rfl rfl ?_
            refine done_ (done_of HT_.out (g1_)) ?_
            try go_wp2
            go_roundg k4
            case measure => have := HJ5.out; have := HJ17.out; have := HK3.out; have := HK4.out; omega
            case rel => exact ⟨(by0), (wrap64 (cq + 1)), (g2_), H', ⟨g35_⟩, ⟨by (with_reducible repeat (first | apply Kd.N_alloc | apply Kd.N_drewN | apply Kd.N_drew)); exact Kd.N_mono cz8.out (fun _ hk => ⟨hk.1, hk.2.2.2⟩)⟩, ⟨uf0_ am⟩, ⟨a6⟩⟩
       ·rw [if_neg j8] at H
        have al8 := decide_eq_false j8
        clear j8
        obtain rfl := Option.some.inj H
        obtain ⟨ef5, ef6, ef7, ef8⟩ := blk2_ am
        go_wp2; (repeat ((first | go_step3 | rw [Exit.noGoto_normal] | rw [Exit.noGoto_exit] | rw [Exit.noGoto_ret]); go_wp2))
        go_ret
        exact ⟨_, by first | rfl | (simp [errW_none, errW_some] <;> rfl) | (simp only [← hji3]; first | rfl | (simp [errW_none, errW_some] <;> rfl)) | (simp [*, errW_none, errW_some] <;> rfl), by (with_reducible repeat (first | apply Kd.N_alloc | apply Kd.N_drewN | apply Kd.N_drew)); exact Kd.N_mono bh.out (fun _ hk => hk.1), a6⟩
def spec_l3Before.l0 : Nat → List Int → List Int → Int → Option (Bool)
 | 0, _, _, _ => none
 | k + 1, x0, x1, x5 => if x5 < (x0.length : Int) then (if 0 ≤ x5 then (if x5 < (x1.length : Int) then (if (rd x0 x5) = (rd x1 x5) then (spec_l3Before.l0 k x0 x1 (wrap64 (x5 + 1))) else (some (decide ((rd x0 x5) < (rd x1 x5))))) else (none)) else (none)) else (some false)
def spec_l3Before.f (k : Nat) (l0 : List Int) (l1 : List Int) : Option (Bool) := if (l0.length : Int) = (l1.length : Int) then (spec_l3Before.l0 k l0 l1 0) else (some (decide ((l0.length : Int) < (l1.length : Int))))
theorem spec_l3Before.mq {p : Prop} (h : p := by
 repeat' first
 | (with_reducible exact ih0 _ _ _)
 | (with_reducible exact LeO.refl _)
 | (with_reducible exact LeO.none _)
 | (with_reducible refine LeO.ite ?_ ?_)
 | (with_reducible refine LeO.bind ?_ (fun _ => ?_))
 | exact ih0 _ _ _
 | exact LeO.none _
 | refine LeO.ite ?_ ?_
 | refine LeO.bind ?_ (fun _ => ?_)) : p := h
theorem spec_l3Before.mono_l : ∀ k, (∀ y0 y1 y2, LeO (spec_l3Before.l0 k y0 y1 y2) (spec_l3Before.l0 (k + 1) y0 y1 y2))
 | 0 => fun _ _ _ r h => by simp [spec_l3Before.l0] at h
 | k + 1 => by
  have ih0 := spec_l3Before.mono_l k
  ·intro y0 y1 y2
   unfold spec_l3Before.l0
   exact spec_l3Before.mq
theorem spec_l3Before.mono : ∀ a0 a1 k, LeO (spec_l3Before.f k a0 a1) (spec_l3Before.f (k + 1) a0 a1) := by
 intro a0 a1 k
 have ih0 := spec_l3Before.mono_l k
 unfold spec_l3Before.f
 exact spec_l3Before.mq
set_option maxHeartbeats 8000000 in
set_option maxRecDepth 100000 in
theorem spec_l3Before.calls (k : Nat) (A0 : Option Addr) (c0 : Nat) (l0 : List Int) (A1 : Option Addr) (c1 : Nat) (l1 : List Int) (r : Bool) (w : World) (br : Kd.C (Kd.int .i64) w A0 l0.length l0) (cx : l0.length ≤ c0) (er : Kd.C (Kd.int .i64) w A1 l1.length l1) (ey : l1.length ≤ c1) (h : spec_l3Before.f k l0 l1 = some r) :
  Calls Try.prog 114 #[.slice A0 l0.length c0, .slice A1 l1.length c1] w fun e w' => e = .returned (.bool r) ∧ Drawn0 w w' := by
 have dz := Aside0.mk br
 have kt := Aside0.mk cx
 clear br cx
 have dc := Aside0.mk er
 have uz := Aside0.mk ey
 clear er ey
 have H : (if (l0.length : Int) = (l1.length : Int) then (spec_l3Before.l0 k l0 l1 0) else (some (decide ((l0.length : Int) < (l1.length : Int))))) = some r := h
 clear h
 by_cases c3 : (l0.length : Int) = (l1.length : Int)
 ·rw [if_pos c3] at H
  have d8 : ((l0.length : Int) == (l1.length : Int)) = true := beq_iff_eq.mpr c3
  have go : ((l0.length : Int) != (l1.length : Int)) = false := bne_eq_false_iff_eq.mpr c3
  have nt : (l0.length == l1.length) = true := by first | simpa using c3 | (simp at c3 ⊢; omega)
  clear c3
  have H' := Aside0.mk H
  clear H
  go_enter Try.func114, Try.ntmps114
  go_wp2
  repeat (go_quiet (fail); try go_wp2)
  go_loopg [5] k (fun kq v5 w' => ∃ (ax : Int), v5 = .int .i64 ax ∧ Aside0 (spec_l3Before.l0 kq l0 l1 ax = some r) ∧ Aside0 (kq ≤ k) ∧ Drawn0 w w')
  case atStart => exact ⟨(0), (g2_), H', ⟨Nat.le_refl _⟩, g5_⟩
  case round =>
   clear H'
   try clear c1
   try clear p2
   try clear c3
   try clear d8
   try clear go
   try clear nt
   obtain ⟨ax, rfl, HA, HK1, ⟨m1, rfl⟩⟩ := hrel
   cases gk with
   | zero => exact absurd HA.out (by simp [spec_l3Before.l0])
   | succ k1 =>
    have H := HA.out
    clear HA
    simp only [spec_l3Before.l0] at H
    by_cases c4 : ax < (l0.length : Int)
    ·rw [if_pos c4] at H
     have fw := decide_eq_true c4
     clear c4
     obtain ⟨c5, H⟩ := pos_ H
     have dv := decide_eq_true c5
     clear c5
     obtain ⟨c6, H⟩ := pos_ H
     have fj := decide_eq_true c6
     clear c6
     by_cases c7 : (rd l0 ax) = (rd l1 ax)
     ·rw [if_pos c7] at H
      have xq : ((rd l0 ax) == (rd l1 ax)) = true := beq_iff_eq.mpr c7
      have au1 : ((rd l0 ax) != (rd l1 ax)) = false := bne_eq_false_iff_eq.mpr c7
      clear c7
      have H' := Aside0.mk H
      clear H
      have tt : 0 ≤ (ax : Int) := of_decide_eq_true (g0_)
      have tu : ax < (l0.length : Int) := of_decide_eq_true (g0_)
      obtain ⟨by4, bc0, cz9⟩ := Kd.at_int dz.out ax tt tu
      cases bc0
      replace tt := eq_true tt
      replace tu := eq_true tu
      have tv : 0 ≤ (ax : Int) := of_decide_eq_true (g0_)
      have tw : ax < (l1.length : Int) := of_decide_eq_true (g0_)
      obtain ⟨by5, bc1, da0⟩ := Kd.at_int dc.out ax tv tw
      cases bc1
      replace tv := eq_true tv
      replace tw := eq_true tw
      go_wp2
      repeat (go_quiet (fail); try go_wp2)
      go_roundg k1
      case measure => have := HK1.out; omega
      case rel => exact ⟨(wrap64 (ax + 1)), (g2_), H', ⟨g8_⟩, g5_⟩
     ·rw [if_neg c7] at H
      have xq : ((rd l0 ax) == (rd l1 ax)) = false := beq_eq_false_iff_ne.mpr c7
      have au1 : ((rd l0 ax) != (rd l1 ax)) = true := bne_iff_ne.mpr c7
      obtain rfl := Option.some.inj H
      have tt : 0 ≤ (ax : Int) := of_decide_eq_true (g0_)
      have tu : ax < (l0.length : Int) := of_decide_eq_true (g0_)
      obtain ⟨by4, bc0, cz9⟩ := Kd.at_int dz.out ax tt tu
      cases bc0
      replace tt := eq_true tt
      replace tu := eq_true tu
      have tv : 0 ≤ (ax : Int) := of_decide_eq_true (g0_)
      have tw : ax < (l1.length : Int) := of_decide_eq_true (g0_)
      obtain ⟨by5, bc1, da0⟩ := Kd.at_int dc.out ax tv tw
      cases bc1
      replace tv := eq_true tv
      replace tw := eq_true tw
      have bc2 : 0 ≤ (ax : Int) := of_decide_eq_true (g0_)
      have bc3 : ax < (l0.length : Int) := of_decide_eq_true (g0_)
      obtain ⟨da1, da2, ef9⟩ := Kd.at_int dz.out ax bc2 bc3
      obtain rfl : by4 = da1 := (by injection da2)
      replace bc2 := eq_true bc2
      replace bc3 := eq_true bc3
      have bc4 : 0 ≤ (ax : Int) := of_decide_eq_true (g0_)
      have bc5 : ax < (l1.length : Int) := of_decide_eq_true (g0_)
      obtain ⟨da3, da4, eg0⟩ := Kd.at_int dc.out ax bc4 bc5
      obtain rfl : by5 = da3 := (by injection da4)
      replace bc4 := eq_true bc4
      replace bc5 := eq_true bc5
      go_wp2
      repeat (go_quiet (fail); try go_wp2)
      go_ret
      exact ⟨g2_, g5_⟩
    ·rw [if_neg c4] at H
     have fw := decide_eq_false c4
     clear c4
     obtain rfl := Option.some.inj H
     go_wp2
     repeat (go_quiet (fail); try go_wp2)
     go_ret
     exact ⟨g2_, g5_⟩
 ·rw [if_neg c3] at H
  have d8 : ((l0.length : Int) == (l1.length : Int)) = false := beq_eq_false_iff_ne.mpr c3
  have go : ((l0.length : Int) != (l1.length : Int)) = true := bne_iff_ne.mpr c3
  have nt : (l0.length == l1.length) = false := by first | simpa using c3 | (simp at c3 ⊢; omega)
  obtain rfl := Option.some.inj H
  go_enter Try.func114, Try.ntmps114
  go_wp2
  repeat (go_quiet (fail); try go_wp2)
  go_ret
  exact ⟨g2_, g5_⟩
mutual
def spec_CirclesOf.j1 : Nat → List (List Int) → Option ((List (List Int)))
 | 0, _ => none
 | k + 1, x3 => spec_CirclesOf.l1 k x3 1
def spec_CirclesOf.l1 : Nat → List (List Int) → Int → Option ((List (List Int)))
 | 0, _, _ => none
 | k + 1, x3, x5 => if x5 < (x3.length : Int) then (spec_CirclesOf.l2 k x3 x5 x5) else (some x3)
def spec_CirclesOf.l2 : Nat → List (List Int) → Int → Int → Option ((List (List Int)))
 | 0, _, _, _ => none
 | k + 1, x3, x5, x6 => if x6 > 0 then (if 0 ≤ x6 then (if x6 < (x3.length : Int) then (if 0 ≤ (wrap64 (x6 - 1)) then (if (wrap64 (x6 - 1)) < (x3.length : Int) then ((spec_l3Before.f k (rd_L1 x3 x6) (rd_L1 x3 (wrap64 (x6 - 1)))).bind fun zx => (if zx = true then (spec_CirclesOf.l2 k ((x3.set (x6 : Int).toNat (rd_L1 x3 (wrap64 (x6 - 1)))).set ((wrap64 (x6 - 1)) : Int).toNat (rd_L1 x3 x6)) x5 (wrap64 (x6 - 1))) else (spec_CirclesOf.l1 k x3 (wrap64 (x5 + 1))))) else (none)) else (none)) else (none)) else (none)) else (spec_CirclesOf.l1 k x3 (wrap64 (x5 + 1)))
def spec_CirclesOf.l0 : Nat → List (List Int) → Int → List Int → List (List Int) → Option ((List (List Int)))
 | 0, _, _, _, _ => none
 | k + 1, x3, x4, am2, bc6 => if x4 < (am2.length : Int) then ((spec_BookOk.f k am2 bc6).bind fun bc7 => (if bc7 = true then ((spec_l3Paths.f k am2 bc6 (([x4] : List Int))).bind fun k9 => (if x3.length + k9.length < 5864062014805 then (spec_CirclesOf.l0 k (x3 ++ k9) (wrap64 (x4 + 1)) am2 bc6) else (none))) else (spec_CirclesOf.j1 k x3))) else (spec_CirclesOf.j1 k x3)
end
def spec_CirclesOf.f (k : Nat) (ab : List Int) (aa : List (List Int)) : Option ((List (List Int))) := spec_CirclesOf.l0 k (([] : List (List Int))) 0 ab aa
theorem spec_CirclesOf.V_atq {α : Type} {d : Kd α} {e : Nat} {w w1 : World} {base n : Nat} {ok : Nat → Prop} {v : Value} {xs : List α} (hq : World.drewN w n = w1) (h : Kd.V d e w base ok v xs) : Kd.V d e w1 base ok v xs := by subst hq; exact Kd.V_drewN h n
theorem spec_CirclesOf.mq {p : Prop} (h : p := by
 repeat' first
 | (with_reducible exact ih0 _)
 | (with_reducible exact ih1 _ _)
 | (with_reducible exact ih2 _ _ _)
 | (with_reducible exact ih3 _ _ _ _)
 | (with_reducible exact spec_BookOk.mono _ _ _)
 | (with_reducible exact spec_l3Before.mono _ _ _)
 | (with_reducible exact spec_l3Paths.mono _ _ _ _)
 | (with_reducible exact LeO.refl _)
 | (with_reducible exact LeO.none _)
 | (with_reducible refine LeO.ite ?_ ?_)
 | (with_reducible refine LeO.bind ?_ (fun _ => ?_))
 | exact ih0 _
 | exact ih1 _ _
 | exact ih2 _ _ _
 | exact ih3 _ _ _ _
 | exact spec_BookOk.mono _ _ _
 | exact spec_l3Before.mono _ _ _
 | exact spec_l3Paths.mono _ _ _ _
 | exact LeO.none _
 | refine LeO.ite ?_ ?_
 | refine LeO.bind ?_ (fun _ => ?_)) : p := h
theorem spec_CirclesOf.mono_l : ∀ k, (∀ y0, LeO (spec_CirclesOf.j1 k y0) (spec_CirclesOf.j1 (k + 1) y0)) ∧ (∀ y0 y1, LeO (spec_CirclesOf.l1 k y0 y1) (spec_CirclesOf.l1 (k + 1) y0 y1)) ∧ (∀ y0 y1 y2, LeO (spec_CirclesOf.l2 k y0 y1 y2) (spec_CirclesOf.l2 (k + 1) y0 y1 y2)) ∧ (∀ y0 y1 y2 y3, LeO (spec_CirclesOf.l0 k y0 y1 y2 y3) (spec_CirclesOf.l0 (k + 1) y0 y1 y2 y3))
 | 0 => ⟨fun _ r h => by simp [spec_CirclesOf.j1] at h, fun _ _ r h => by simp [spec_CirclesOf.l1] at h, fun _ _ _ r h => by simp [spec_CirclesOf.l2] at h, fun _ _ _ _ r h => by simp [spec_CirclesOf.l0] at h⟩
 | k + 1 => by
  obtain ⟨ih0, ih1, ih2, ih3⟩ := spec_CirclesOf.mono_l k
  refine ⟨?_, ?_, ?_, ?_⟩
  ·intro y0
   unfold spec_CirclesOf.j1
   exact spec_CirclesOf.mq
  ·intro y0 y1
   unfold spec_CirclesOf.l1
   exact spec_CirclesOf.mq
  ·intro y0 y1 y2
   unfold spec_CirclesOf.l2
   exact spec_CirclesOf.mq
  ·intro y0 y1 y2 y3
   unfold spec_CirclesOf.l0
   exact spec_CirclesOf.mq
theorem spec_CirclesOf.mono : ∀ a0 a1 k, LeO (spec_CirclesOf.f k a0 a1) (spec_CirclesOf.f (k + 1) a0 a1) := by
 intro a0 a1 k
 obtain ⟨ih0, ih1, ih2, ih3⟩ := spec_CirclesOf.mono_l k
 unfold spec_CirclesOf.f
 exact spec_CirclesOf.mq
theorem bz {p : Prop} (h : p := by repeat (first | (with_reducible first | exact HB.out | apply below_alloc | apply pw_below_drewN | apply below_drew1 | refine below_set ?_ bc8.out) | exact HB.out)) : p := h
set_option maxHeartbeats 8000000 in
set_option maxRecDepth 100000 in
theorem spec_CirclesOf.calls (k : Nat) (ae : Option Addr) (ac : Nat) (ab : List Int) (ag : Option Addr) (af : Nat) (aa : List (List Int)) (r : List (List Int)) (w : World) (bo : Kd.C (Kd.int .i64) w ae ab.length ab) (bs : ab.length ≤ ac) (bp : Kd.C (Kd.slice 3 (Kd.int .i64)) w ag aa.length aa) (bt : aa.length ≤ af) (h : spec_CirclesOf.f k ab aa = some r) :
  Calls Try.prog 95 #[.agg #[.slice ae ab.length ac, .slice ag aa.length af]] w fun e w' => ∃ v0_ : Value, e = .returned (v0_) ∧ Kd.N (Kd.slice 3 (Kd.int .i64)) 22 w' w.heap.size (fun k_ => (w.heap.size ≤ k_)) v0_ r ∧ Below w.heap.size w w' := by
 have hu25 := Try.underlying25
 have bg := Aside0.mk bo
 have bx := Aside0.mk bs
 clear bo bs
 have bb := Aside0.mk bp
 have b2 := Aside0.mk bt
 clear bp bt
 have HB := Aside0.mk (Below.refl w.heap.size w)
 have H : (spec_CirclesOf.l0 k (([] : List (List Int))) 0 ab aa) = some r := h
 clear h
 obtain ⟨by6, hy288⟩ : ∃ y_ : List (List Int), y_ = (([] : List (List Int))) := ⟨_, rfl⟩
 replace H : (spec_CirclesOf.l0 k by6 0 ab aa) = some r := by first | (rw [hy288]; with_reducible exact H) | (have H2_ := (Option.bind_some _ _).symm.trans H; rw [hy288]; with_reducible exact H2_) | (have H2_ := (Option.bind_some _ _).symm.trans H; with_reducible exact H2_) | with_reducible exact H | (rw [hy288]; exact H) | exact H
 have vu := Aside0.mk hy288
 clear hy288
 have mf := Aside0.mk H
 clear H
 go_enter Try.func95, Try.ntmps95
 go_upto_block 0 with (first | ((with_reducible refine gate_dst (N := 1) rfl ?_); refine bx_ (N := 1) #[.slice ae ab.length ac, .slice ag aa.length af] 25 ?_; intro al hg w3 hbox hb; have av := Aside0.mk (hbox); have by7 := Aside0.mk ((g19_ : w.heap.size ≤ al)); have bc8 := Aside0.mk ((g19_ : w.heap.size ≤ al)); replace HB := Aside0.mk (below_step (bz) hb); clear hb hbox hg) | ((with_reducible refine gate_dst (N := 8) rfl ?_); refine Kd.N_lit (Kd.slice 3 (Kd.int .i64)) _ 22 ?hg (N' := 8) ?hd (xs := ([] : List (List Int))) (inner := []) (ok := (fun k_ => (w.heap.size ≤ k_) ∧ k_ ≠ al)) (okp := (fun k_ => (w.heap.size ≤ k_) ∧ k_ ≠ al)) ?hr ?hp (fun _ hk => hk) ((show ∀ k_, w3.heap.size ≤ k_ → (fun k_ => (w.heap.size ≤ k_) ∧ k_ ≠ al) k_ from fun k_ hk => ⟨(Nat.le_trans (below_size (bz)) hk), Kd.freshB (g := al) (o := .cells #[.slice ae ab.length ac, .slice ag aa.length af] 25 (0, 0)) (uf0_ av) k_ hk⟩) _ (Nat.le_refl _)) (Below.refl _ _) (Nat.le_refl _) (by simp) ?_; (case hd => rfl); (case hg => rfl); (case hr => first | (go_simp; done) | (go_simp; rfl)); (case hp => exact (Reps.none _ _)); intro by8 w4 ij hb hg_ hnew_; clear hg_ hnew_; (first | rw [← vu.out] at ij | (simp only [Int.reduceToNat] at ij; rw [← vu.out] at ij)); have bc9 := Aside0.mk (Kd.N_lower ij (below_size (bz))); replace av := bb_ av hb; replace HB := Aside0.mk (below_step (bz) hb); clear hb ij))
 repeat (go_quiet (first | ((with_reducible refine gate_dst (N := 1) rfl ?_); refine bx_ (N := 1) #[.slice ae ab.length ac, .slice ag aa.length af] 25 ?_; intro al hg w3 hbox hb; have av := Aside0.mk (hbox); have by7 := Aside0.mk ((g19_ : w.heap.size ≤ al)); have bc8 := Aside0.mk ((g19_ : w.heap.size ≤ al)); replace HB := Aside0.mk (below_step (bz) hb); clear hb hbox hg) | ((with_reducible refine gate_dst (N := 8) rfl ?_); refine Kd.N_lit (Kd.slice 3 (Kd.int .i64)) _ 22 ?hg (N' := 8) ?hd (xs := ([] : List (List Int))) (inner := []) (ok := (fun k_ => (w.heap.size ≤ k_) ∧ k_ ≠ al)) (okp := (fun k_ => (w.heap.size ≤ k_) ∧ k_ ≠ al)) ?hr ?hp (fun _ hk => hk) ((show ∀ k_, w3.heap.size ≤ k_ → (fun k_ => (w.heap.size ≤ k_) ∧ k_ ≠ al) k_ from fun k_ hk => ⟨(Nat.le_trans (below_size (bz)) hk), Kd.freshB (g := al) (o := .cells #[.slice ae ab.length ac, .slice ag aa.length af] 25 (0, 0)) (uf0_ av) k_ hk⟩) _ (Nat.le_refl _)) (Below.refl _ _) (Nat.le_refl _) (by simp) ?_; (case hd => rfl); (case hg => rfl); (case hr => first | (go_simp; done) | (go_simp; rfl)); (case hp => exact (Reps.none _ _)); intro by8 w4 ij hb hg_ hnew_; clear hg_ hnew_; (first | rw [← vu.out] at ij | (simp only [Int.reduceToNat] at ij; rw [← vu.out] at ij)); have bc9 := Aside0.mk (Kd.N_lower ij (below_size (bz))); replace av := bb_ av hb; replace HB := Aside0.mk (below_step (bz) hb); clear hb ij)); go_upto_block 0 with (first | ((with_reducible refine gate_dst (N := 1) rfl ?_); refine bx_ (N := 1) #[.slice ae ab.length ac, .slice ag aa.length af] 25 ?_; intro al hg w3 hbox hb; have av := Aside0.mk (hbox); have by7 := Aside0.mk ((g19_ : w.heap.size ≤ al)); have bc8 := Aside0.mk ((g19_ : w.heap.size ≤ al)); replace HB := Aside0.mk (below_step (bz) hb); clear hb hbox hg) | ((with_reducible refine gate_dst (N := 8) rfl ?_); refine Kd.N_lit (Kd.slice 3 (Kd.int .i64)) _ 22 ?hg (N' := 8) ?hd (xs := ([] : List (List Int))) (inner := []) (ok := (fun k_ => (w.heap.size ≤ k_) ∧ k_ ≠ al)) (okp := (fun k_ => (w.heap.size ≤ k_) ∧ k_ ≠ al)) ?hr ?hp (fun _ hk => hk) ((show ∀ k_, w3.heap.size ≤ k_ → (fun k_ => (w.heap.size ≤ k_) ∧ k_ ≠ al) k_ from fun k_ hk => ⟨(Nat.le_trans (below_size (bz)) hk), Kd.freshB (g := al) (o := .cells #[.slice ae ab.length ac, .slice ag aa.length af] 25 (0, 0)) (uf0_ av) k_ hk⟩) _ (Nat.le_refl _)) (Below.refl _ _) (Nat.le_refl _) (by simp) ?_; (case hd => rfl); (case hg => rfl); (case hr => first | (go_simp; done) | (go_simp; rfl)); (case hp => exact (Reps.none _ _)); intro by8 w4 ij hb hg_ hnew_; clear hg_ hnew_; (first | rw [← vu.out] at ij | (simp only [Int.reduceToNat] at ij; rw [← vu.out] at ij)); have bc9 := Aside0.mk (Kd.N_lower ij (below_size (bz))); replace av := bb_ av hb; replace HB := Aside0.mk (below_step (bz) hb); clear hb ij)))
 (try simp only [Act.put, List.setIfInBounds_toArray, List.set_cons_zero, List.set_cons_succ])
 go_cut [3] (fun v3 wc => ∃ (kq : Nat) (cn : List (List Int)), Aside0 (spec_CirclesOf.j1 kq cn = some r) ∧ Aside0 (kq ≤ k) ∧ Aside0 (Kd.N (Kd.slice 3 (Kd.int .i64)) 22 wc w.heap.size (fun k_ => (w.heap.size ≤ k_) ∧ k_ ≠ al) v3 cn) ∧ Aside0 (wc.heap[al]? = some (.cells #[(.slice ae ab.length ac), (.slice ag aa.length af)] 25 (0, 0))) ∧ Aside0 (Below w.heap.size w wc))
 case first =>
  have H := mf.out
  clear mf
  have H' := Aside0.mk H
  clear H
  go_wp2
  repeat (go_quiet (fail); try go_wp2)
  go_loopg [3, 4] k (fun kq v3 v4 w' => ∃ (cn : List (List Int)) (db : Int), v4 = .int .i64 db ∧ Aside0 (spec_CirclesOf.l0 kq cn db ab aa = some r) ∧ Aside0 (kq ≤ k) ∧ Aside0 (Kd.N (Kd.slice 3 (Kd.int .i64)) 22 w' w.heap.size (fun k_ => (w.heap.size ≤ k_) ∧ k_ ≠ al) v3 cn) ∧ Aside0 (w'.heap[al]? = some (.cells #[(.slice ae ab.length ac), (.slice ag aa.length af)] 25 (0, 0))) ∧ Aside0 (Below w.heap.size w w'))
  case atStart => exact ⟨(by6), (0), (g2_), H', ⟨Nat.le_refl _⟩, ⟨uf4_ bc9⟩, ⟨uf0_ av⟩, ⟨bz⟩⟩
  case round =>
   clear H'
   try clear p2
   obtain ⟨cn, db, rfl, HA, HK1, ah, av, HB⟩ := hrel
   cases gk with
   | zero => exact absurd HA.out (by simp [spec_CirclesOf.l0])
   | succ k1 =>
    have H := HA.out
    clear HA
    simp only [spec_CirclesOf.l0] at H
    by_cases c6 : db < (ab.length : Int)
    ·rw [if_pos c6] at H
     have fj := decide_eq_true c6
     clear c6
     (first | rw [fj] | (simp only [i64_w, i32_w]; rw [fj]) | skip)
     obtain ⟨bc7, A7, H⟩ := bind_ H
     by_cases c8 : bc7 = true
     ·subst c8
      replace H := ifp_ H
      obtain ⟨ik, hy292⟩ : ∃ y_ : List Int, y_ = (([db] : List Int)) := ⟨_, rfl⟩
      replace H : ((spec_l3Paths.f k1 ab aa ik).bind fun k9 => (if cn.length + k9.length < 5864062014805 then (spec_CirclesOf.l0 k1 (cn ++ k9) (wrap64 (db + 1)) ab aa) else (none))) = some r := by first | (rw [hy292]; with_reducible exact H) | (have H2_ := (Option.bind_some _ _).symm.trans H; rw [hy292]; with_reducible exact H2_) | (have H2_ := (Option.bind_some _ _).symm.trans H; with_reducible exact H2_) | with_reducible exact H | (rw [hy292]; exact H) | exact H
      have vv := Aside0.mk hy292
      clear hy292
      obtain ⟨k9, A9, H⟩ := bind_ H
      obtain ⟨b9, H⟩ := pos_ H
      have bd0 := Aside0.mk b9
      clear b9
      obtain ⟨by9, hy298⟩ : ∃ y_ : List (List Int), y_ = (cn ++ k9) := ⟨_, rfl⟩
      replace H : (spec_CirclesOf.l0 k1 by9 (wrap64 (db + 1)) ab aa) = some r := by first | (rw [hy298]; with_reducible exact H) | (have H2_ := (Option.bind_some _ _).symm.trans H; rw [hy298]; with_reducible exact H2_) | (have H2_ := (Option.bind_some _ _).symm.trans H; with_reducible exact H2_) | with_reducible exact H | (rw [hy298]; exact H) | exact H
      have bd1 := Aside0.mk hy298
      clear hy298
      have H' := Aside0.mk H
      clear H
      obtain ⟨rq, rr, rs, rt⟩ := blk2_ av
      go_wp2_with (first | (go_at_call 42; (with_reducible refine (spec_BookOk.calls k1 _ _ ab _ _ aa true _ ?side1 ?side2 ?side3 ?side4 A7.out).mono ?_); (case side1 => exact uf2_ bg); (case side2 => exact bx.out); (case side3 => exact uf2_ bb); (case side4 => exact b2.out); rintro e qg ⟨rfl, hb⟩; replace ah := Aside0.mk (Kd.N_below (uf4_ ah) hb); replace av := bb_ av hb; replace HB := Aside0.mk (below_step (bz) hb); (try clear hb); (try clear hk hi); obtain ⟨lh, li, lj, lk⟩ := blk2_ av) | ((with_reducible refine gate_dst (N := 23) rfl ?_); refine Kd.R_lit (Kd.int .i64) _ 3 ?hg (N := 23) ?hd (xs := ([db] : List Int)) (inner := [.int .i64 db]) (ok := fun _ => True) (okp := fun _ => True) ?hr ?hp (fun _ hk => hk) trivial (Below.refl _ _) (Nat.le_refl _) (by simp) ?_; (case hd => rfl); (case hg => rfl); (case hr => first | (go_simp; done) | (go_simp; rfl)); (case hp => exact (Reps.one (show Kd.M (Kd.int .i64) _ _ _ db [.int .i64 db] from rfl) (Reps.none _ _))); intro bz0 w14 gl hb hg_ hnew_; clear hg_ hnew_; (first | rw [← vv.out] at gl | (simp only [Int.reduceToNat] at gl; rw [← vv.out] at gl)); replace ah := Aside0.mk (Kd.N_elder' (uf4_ ah) (Kd.R_base gl) hb); have ee := Aside0.mk (Kd.R_lower (Kd.R_newM (M := fun k_ => (w.heap.size ≤ k_)) gl (below_size (bz)) (fun k_ h_ => h_)) (below_size (bz))); replace av := bb_ av hb; replace HB := Aside0.mk (below_step (bz) hb); clear hb gl; obtain ⟨jn, iw, qn⟩ := Kd.R_slice ee.out; subst qn) | (go_at_call 113; (with_reducible refine (spec_l3Paths.calls k1 _ _ ab _ _ aa _ _ ik k9 _ ?side1 ?side2 ?side3 ?side4 ?side5 ?side6 A9.out).mono ?_); (case side1 => exact uf2_ bg); (case side2 => exact bx.out); (case side3 => exact uf2_ bb); (case side4 => exact b2.out); (case side5 => repeat (first | exact (Kd.R_reads' ee.out).2.2 | (with_reducible refine Kd.C_alloc ?_ _) | (with_reducible refine Kd.C_drewN ?_ _) | (with_reducible refine Kd.C_drew ?_))); (case side6 => exact (Kd.R_reads' ee.out).2.1); rintro e pa ⟨bz1, rfl, aj, hb⟩; have ob := Aside0.mk (Kd.N_lower (Kd.N_mono (ok' := fun k_ => (w.heap.size ≤ k_) ∧ some k_ ≠ (u3 : Value).ownBlock ∧ some k_ ≠ (.slice jn ik.length iw : Value).ownBlock ∧ k_ ≠ al) aj (fun k_ hk_ => ⟨(Nat.le_trans (below_size (bz)) hk_), (Kd.fresh' (Kd.N_lt (uf4_ ah)) k_ hk_), (Kd.fresh' (Kd.R_lt (uf1_ ee)) k_ hk_), (Kd.freshB (g := al) (o := .cells #[.slice ae ab.length ac, .slice ag aa.length af] 25 (0, 0)) (uf0_ av) k_ hk_)⟩)) (below_size (bz))); replace ah := Aside0.mk (Kd.N_elder' (uf4_ ah) (Kd.N_base aj) hb); replace ee := Aside0.mk (Kd.R_below (uf1_ ee) hb); replace av := bb_ av hb; replace HB := Aside0.mk (below_step (bz) hb); (try clear hb); (try clear hk hi); (try clear aj); obtain ⟨pp, pq, m0⟩ := Kd.N_slice ob.out; subst m0) | ((with_reducible refine gate_builtin (b := .append) (xs := #[.tmp 20, .tmp 24]) rfl ?_); at_builtin; refine Kd.N_append_rows (Kd.slice 3 (Kd.int .i64)) (w0 := w) w.heap.size rfl (.tmp 20) (.tmp 24) 23 22 (.slice none 0 0) 24 rfl Try.underlying23 info22 rfl (by decide) (by omega) u3 cn k9 _ _ _ (fun k_ => (w.heap.size ≤ k_) ∧ some k_ ≠ (.slice jn ik.length iw : Value).ownBlock ∧ k_ ≠ al) (fun k_ => ((fun k_ => (w.heap.size ≤ k_) ∧ some k_ ≠ (.slice jn ik.length iw : Value).ownBlock ∧ k_ ≠ al)) k_ ∧ some k_ ≠ (u3 : Value).ownBlock) rfl rfl ?aO ?aR (fun _ hk => hk) ?aF ?aB ?aS ?aL ?_; (case aR => exact (g52_)); (case aB => exact (bz)); (case aF => exact (fun k_ hk => ⟨(Nat.le_trans (below_size (bz)) hk), Kd.fresh' (Kd.R_lt (uf1_ ee)) k_ hk, Kd.freshB (g := al) (o := .cells #[.slice ae ab.length ac, .slice ag aa.length af] 25 (0, 0)) (uf0_ av) k_ hk⟩)); (case aO => exact (g53_)); (case aS => exact (below_size (bz))); (case aL => have := bd0.out; omega); intro bz2 w18 ho hb hg hat; rw [← bd1.out] at ho; replace av := Aside0.mk (blk_grown (g := al) (o := .cells #[.slice ae ab.length ac, .slice ag aa.length af] 25 (0, 0)) (uf0_ av) hg (Kd.N_ne ah.out av.out (by decide))); replace ee := Aside0.mk (Kd.R_over' (uf1_ ee) (Kd.N_typed (uf4_ ah)) (by decide) hg); replace ob := Aside0.mk (Kd.N_afterv (ok := (fun k_ => (w.heap.size ≤ k_) ∧ some k_ ≠ (.slice jn ik.length iw : Value).ownBlock ∧ k_ ≠ al)) (g54_) hg hat); replace HB := Aside0.mk (hb); have bd2 := Aside0.mk (ho); clear ah; clear ho hb hg hat))
      repeat (go_quiet (first | (go_at_call 42; (with_reducible refine (spec_BookOk.calls k1 _ _ ab _ _ aa true _ ?side1 ?side2 ?side3 ?side4 A7.out).mono ?_); (case side1 => exact uf2_ bg); (case side2 => exact bx.out); (case side3 => exact uf2_ bb); (case side4 => exact b2.out); rintro e qg ⟨rfl, hb⟩; replace ah := Aside0.mk (Kd.N_below (uf4_ ah) hb); replace av := bb_ av hb; replace HB := Aside0.mk (below_step (bz) hb); (try clear hb); (try clear hk hi); obtain ⟨lh, li, lj, lk⟩ := blk2_ av) | ((with_reducible refine gate_dst (N := 23) rfl ?_); refine Kd.R_lit (Kd.int .i64) _ 3 ?hg (N := 23) ?hd (xs := ([db] : List Int)) (inner := [.int .i64 db]) (ok := fun _ => True) (okp := fun _ => True) ?hr ?hp (fun _ hk => hk) trivial (Below.refl _ _) (Nat.le_refl _) (by simp) ?_; (case hd => rfl); (case hg => rfl); (case hr => first | (go_simp; done) | (go_simp; rfl)); (case hp => exact (Reps.one (show Kd.M (Kd.int .i64) _ _ _ db [.int .i64 db] from rfl) (Reps.none _ _))); intro bz0 w14 gl hb hg_ hnew_; clear hg_ hnew_; (first | rw [← vv.out] at gl | (simp only [Int.reduceToNat] at gl; rw [← vv.out] at gl)); replace ah := Aside0.mk (Kd.N_elder' (uf4_ ah) (Kd.R_base gl) hb); have ee := Aside0.mk (Kd.R_lower (Kd.R_newM (M := fun k_ => (w.heap.size ≤ k_)) gl (below_size (bz)) (fun k_ h_ => h_)) (below_size (bz))); replace av := bb_ av hb; replace HB := Aside0.mk (below_step (bz) hb); clear hb gl; obtain ⟨jn, iw, qn⟩ := Kd.R_slice ee.out; subst qn) | (go_at_call 113; (with_reducible refine (spec_l3Paths.calls k1 _ _ ab _ _ aa _ _ ik k9 _ ?side1 ?side2 ?side3 ?side4 ?side5 ?side6 A9.out).mono ?_); (case side1 => exact uf2_ bg); (case side2 => exact bx.out); (case side3 => exact uf2_ bb); (case side4 => exact b2.out); (case side5 => repeat (first | exact (Kd.R_reads' ee.out).2.2 | (with_reducible refine Kd.C_alloc ?_ _) | (with_reducible refine Kd.C_drewN ?_ _) | (with_reducible refine Kd.C_drew ?_))); (case side6 => exact (Kd.R_reads' ee.out).2.1); rintro e pa ⟨bz1, rfl, aj, hb⟩; have ob := Aside0.mk (Kd.N_lower (Kd.N_mono (ok' := fun k_ => (w.heap.size ≤ k_) ∧ some k_ ≠ (u3 : Value).ownBlock ∧ some k_ ≠ (.slice jn ik.length iw : Value).ownBlock ∧ k_ ≠ al) aj (fun k_ hk_ => ⟨(Nat.le_trans (below_size (bz)) hk_), (Kd.fresh' (Kd.N_lt (uf4_ ah)) k_ hk_), (Kd.fresh' (Kd.R_lt (uf1_ ee)) k_ hk_), (Kd.freshB (g := al) (o := .cells #[.slice ae ab.length ac, .slice ag aa.length af] 25 (0, 0)) (uf0_ av) k_ hk_)⟩)) (below_size (bz))); replace ah := Aside0.mk (Kd.N_elder' (uf4_ ah) (Kd.N_base aj) hb); replace ee := Aside0.mk (Kd.R_below (uf1_ ee) hb); replace av := bb_ av hb; replace HB := Aside0.mk (below_step (bz) hb); (try clear hb); (try clear hk hi); (try clear aj); obtain ⟨pp, pq, m0⟩ := Kd.N_slice ob.out; subst m0) | ((with_reducible refine gate_builtin (b := .append) (xs := #[.tmp 20, .tmp 24]) rfl ?_); at_builtin; refine Kd.N_append_rows (Kd.slice 3 (Kd.int .i64)) (w0 := w) w.heap.size rfl (.tmp 20) (.tmp 24) 23 22 (.slice none 0 0) 24 rfl Try.underlying23 info22 rfl (by decide) (by omega) u3 cn k9 _ _ _ (fun k_ => (w.heap.size ≤ k_) ∧ some k_ ≠ (.slice jn ik.length iw : Value).ownBlock ∧ k_ ≠ al) (fun k_ => ((fun k_ => (w.heap.size ≤ k_) ∧ some k_ ≠ (.slice jn ik.length iw : Value).ownBlock ∧ k_ ≠ al)) k_ ∧ some k_ ≠ (u3 : Value).ownBlock) rfl rfl ?aO ?aR (fun _ hk => hk) ?aF ?aB ?aS ?aL ?_; (case aR => exact (g52_)); (case aB => exact (bz)); (case aF => exact (fun k_ hk => ⟨(Nat.le_trans (below_size (bz)) hk), Kd.fresh' (Kd.R_lt (uf1_ ee)) k_ hk, Kd.freshB (g := al) (o := .cells #[.slice ae ab.length ac, .slice ag aa.length af] 25 (0, 0)) (uf0_ av) k_ hk⟩)); (case aO => exact (g53_)); (case aS => exact (below_size (bz))); (case aL => have := bd0.out; omega); intro bz2 w18 ho hb hg hat; rw [← bd1.out] at ho; replace av := Aside0.mk (blk_grown (g := al) (o := .cells #[.slice ae ab.length ac, .slice ag aa.length af] 25 (0, 0)) (uf0_ av) hg (Kd.N_ne ah.out av.out (by decide))); replace ee := Aside0.mk (Kd.R_over' (uf1_ ee) (Kd.N_typed (uf4_ ah)) (by decide) hg); replace ob := Aside0.mk (Kd.N_afterv (ok := (fun k_ => (w.heap.size ≤ k_) ∧ some k_ ≠ (.slice jn ik.length iw : Value).ownBlock ∧ k_ ≠ al)) (g54_) hg hat); replace HB := Aside0.mk (hb); have bd2 := Aside0.mk (ho); clear ah; clear ho hb hg hat)); try go_wp2_with (first | (go_at_call 42; (with_reducible refine (spec_BookOk.calls k1 _ _ ab _ _ aa true _ ?side1 ?side2 ?side3 ?side4 A7.out).mono ?_); (case side1 => exact uf2_ bg); (case side2 => exact bx.out); (case side3 => exact uf2_ bb); (case side4 => exact b2.out); rintro e qg ⟨rfl, hb⟩; replace ah := Aside0.mk (Kd.N_below (uf4_ ah) hb); replace av := bb_ av hb; replace HB := Aside0.mk (below_step (bz) hb); (try clear hb); (try clear hk hi); obtain ⟨lh, li, lj, lk⟩ := blk2_ av) | ((with_reducible refine gate_dst (N := 23) rfl ?_); refine Kd.R_lit (Kd.int .i64) _ 3 ?hg (N := 23) ?hd (xs := ([db] : List Int)) (inner := [.int .i64 db]) (ok := fun _ => True) (okp := fun _ => True) ?hr ?hp (fun _ hk => hk) trivial (Below.refl _ _) (Nat.le_refl _) (by simp) ?_; (case hd => rfl); (case hg => rfl); (case hr => first | (go_simp; done) | (go_simp; rfl)); (case hp => exact (Reps.one (show Kd.M (Kd.int .i64) _ _ _ db [.int .i64 db] from rfl) (Reps.none _ _))); intro bz0 w14 gl hb hg_ hnew_; clear hg_ hnew_; (first | rw [← vv.out] at gl | (simp only [Int.reduceToNat] at gl; rw [← vv.out] at gl)); replace ah := Aside0.mk (Kd.N_elder' (uf4_ ah) (Kd.R_base gl) hb); have ee := Aside0.mk (Kd.R_lower (Kd.R_newM (M := fun k_ => (w.heap.size ≤ k_)) gl (below_size (bz)) (fun k_ h_ => h_)) (below_size (bz))); replace av := bb_ av hb; replace HB := Aside0.mk (below_step (bz) hb); clear hb gl; obtain ⟨jn, iw, qn⟩ := Kd.R_slice ee.out; subst qn) | (go_at_call 113; (with_reducible refine (spec_l3Paths.calls k1 _ _ ab _ _ aa _ _ ik k9 _ ?side1 ?side2 ?side3 ?side4 ?side5 ?side6 A9.out).mono ?_); (case side1 => exact uf2_ bg); (case side2 => exact bx.out); (case side3 => exact uf2_ bb); (case side4 => exact b2.out); (case side5 => repeat (first | exact (Kd.R_reads' ee.out).2.2 | (with_reducible refine Kd.C_alloc ?_ _) | (with_reducible refine Kd.C_drewN ?_ _) | (with_reducible refine Kd.C_drew ?_))); (case side6 => exact (Kd.R_reads' ee.out).2.1); rintro e pa ⟨bz1, rfl, aj, hb⟩; have ob := Aside0.mk (Kd.N_lower (Kd.N_mono (ok' := fun k_ => (w.heap.size ≤ k_) ∧ some k_ ≠ (u3 : Value).ownBlock ∧ some k_ ≠ (.slice jn ik.length iw : Value).ownBlock ∧ k_ ≠ al) aj (fun k_ hk_ => ⟨(Nat.le_trans (below_size (bz)) hk_), (Kd.fresh' (Kd.N_lt (uf4_ ah)) k_ hk_), (Kd.fresh' (Kd.R_lt (uf1_ ee)) k_ hk_), (Kd.freshB (g := al) (o := .cells #[.slice ae ab.length ac, .slice ag aa.length af] 25 (0, 0)) (uf0_ av) k_ hk_)⟩)) (below_size (bz))); replace ah := Aside0.mk (Kd.N_elder' (uf4_ ah) (Kd.N_base aj) hb); replace ee := Aside0.mk (Kd.R_below (uf1_ ee) hb); replace av := bb_ av hb; replace HB := Aside0.mk (below_step (bz) hb); (try clear hb); (try clear hk hi); (try clear aj); obtain ⟨pp, pq, m0⟩ := Kd.N_slice ob.out; subst m0) | ((with_reducible refine gate_builtin (b := .append) (xs := #[.tmp 20, .tmp 24]) rfl ?_); at_builtin; refine Kd.N_append_rows (Kd.slice 3 (Kd.int .i64)) (w0 := w) w.heap.size rfl (.tmp 20) (.tmp 24) 23 22 (.slice none 0 0) 24 rfl Try.underlying23 info22 rfl (by decide) (by omega) u3 cn k9 _ _ _ (fun k_ => (w.heap.size ≤ k_) ∧ some k_ ≠ (.slice jn ik.length iw : Value).ownBlock ∧ k_ ≠ al) (fun k_ => ((fun k_ => (w.heap.size ≤ k_) ∧ some k_ ≠ (.slice jn ik.length iw : Value).ownBlock ∧ k_ ≠ al)) k_ ∧ some k_ ≠ (u3 : Value).ownBlock) rfl rfl ?aO ?aR (fun _ hk => hk) ?aF ?aB ?aS ?aL ?_; (case aR => exact (g52_)); (case aB => exact (bz)); (case aF => exact (fun k_ hk => ⟨(Nat.le_trans (below_size (bz)) hk), Kd.fresh' (Kd.R_lt (uf1_ ee)) k_ hk, Kd.freshB (g := al) (o := .cells #[.slice ae ab.length ac, .slice ag aa.length af] 25 (0, 0)) (uf0_ av) k_ hk⟩)); (case aO => exact (g53_)); (case aS => exact (below_size (bz))); (case aL => have := bd0.out; omega); intro bz2 w18 ho hb hg hat; rw [← bd1.out] at ho; replace av := Aside0.mk (blk_grown (g := al) (o := .cells #[.slice ae ab.length ac, .slice ag aa.length af] 25 (0, 0)) (uf0_ av) hg (Kd.N_ne ah.out av.out (by decide))); replace ee := Aside0.mk (Kd.R_over' (uf1_ ee) (Kd.N_typed (uf4_ ah)) (by decide) hg); replace ob := Aside0.mk (Kd.N_afterv (ok := (fun k_ => (w.heap.size ≤ k_) ∧ some k_ ≠ (.slice jn ik.length iw : Value).ownBlock ∧ k_ ≠ al)) (g54_) hg hat); replace HB := Aside0.mk (hb); have bd2 := Aside0.mk (ho); clear ah; clear ho hb hg hat)))
      go_roundg k1
      case measure => have := HK1.out; omega
      case rel => exact ⟨(by9), (wrap64 (db + 1)), (g2_), H', ⟨g8_⟩, ⟨by (with_reducible repeat (first | apply Kd.N_alloc | apply Kd.N_drewN | apply Kd.N_drew)); exact Kd.N_mono bd2.out (fun _ hk => ⟨hk.1, hk.2.2⟩)⟩, ⟨uf0_ av⟩, ⟨bz⟩⟩
     ·replace c8 := Bool.eq_false_iff.mpr c8
      subst c8
      replace H := ifn_ H
      have H' := Aside0.mk H
      clear H
      obtain ⟨bd3, bd4, bd5, bd6⟩ := blk2_ av
      go_wp2_with (first | (go_at_call 42; (with_reducible refine (spec_BookOk.calls k1 _ _ ab _ _ aa false _ ?side1 ?side2 ?side3 ?side4 A7.out).mono ?_); (case side1 => exact uf2_ bg); (case side2 => exact bx.out); (case side3 => exact uf2_ bb); (case side4 => exact b2.out); rintro e tx ⟨rfl, hb⟩; replace ah := Aside0.mk (Kd.N_below (uf4_ ah) hb); replace av := bb_ av hb; replace HB := Aside0.mk (below_step (bz) hb); (try clear hb); (try clear hk hi)))
      repeat (go_quiet (first | (go_at_call 42; (with_reducible refine (spec_BookOk.calls k1 _ _ ab _ _ aa false _ ?side1 ?side2 ?side3 ?side4 A7.out).mono ?_); (case side1 => exact uf2_ bg); (case side2 => exact bx.out); (case side3 => exact uf2_ bb); (case side4 => exact b2.out); rintro e tx ⟨rfl, hb⟩; replace ah := Aside0.mk (Kd.N_below (uf4_ ah) hb); replace av := bb_ av hb; replace HB := Aside0.mk (below_step (bz) hb); (try clear hb); (try clear hk hi))); try go_wp2_with (first | (go_at_call 42; (with_reducible refine (spec_BookOk.calls k1 _ _ ab _ _ aa false _ ?side1 ?side2 ?side3 ?side4 A7.out).mono ?_); (case side1 => exact uf2_ bg); (case side2 => exact bx.out); (case side3 => exact uf2_ bb); (case side4 => exact b2.out); rintro e tx ⟨rfl, hb⟩; replace ah := Aside0.mk (Kd.N_below (uf4_ ah) hb); replace av := bb_ av hb; replace HB := Aside0.mk (below_step (bz) hb); (try clear hb); (try clear hk hi))))
      go_meet
      case rel => exact ⟨_, (cn), H', ⟨by have := HK1.out; first | omega | exact Nat.le_refl _⟩, ⟨uf4_ ah⟩, ⟨uf0_ av⟩, ⟨bz⟩⟩
    ·rw [if_neg c6] at H
     have fj := decide_eq_false c6
     clear c6
     (first | rw [fj] | (simp only [i64_w, i32_w]; rw [fj]) | skip)
     have H' := Aside0.mk H
     clear H
     obtain ⟨ur, us, ut, uu⟩ := blk2_ av
     go_wp2
     repeat (go_quiet (fail); try go_wp2)
     go_meet
     case rel => exact ⟨_, (cn), H', ⟨by have := HK1.out; first | omega | exact Nat.le_refl _⟩, ⟨uf4_ ah⟩, ⟨uf0_ av⟩, ⟨bz⟩⟩
 case rest =>
  clear mf
  try clear c1
  try clear p2
  try clear c6
  try clear fj
  try clear p6
  try clear c8
  try clear c9
  try clear b9
  try clear rq
  try clear rr
  try clear lh
  try clear li
  try clear bd3
  try clear bd4
  try clear ur
  try clear us
  try clear rs
  try clear rt
  try clear lj
  try clear lk
  try clear bd5
  try clear bd6
  try clear ut
  try clear uu
  try clear p2
  obtain ⟨kq, cn, HA, HJ1, ah, av, HB⟩ := hcut
  cases kq with
  | zero => exact absurd HA.out (by simp [spec_CirclesOf.j1])
  | succ kj1 =>
   have H := HA.out
   clear HA
   simp only [spec_CirclesOf.j1] at H
   have H' := Aside0.mk H
   clear H
   go_wp2
   repeat (go_quiet (fail); try go_wp2)
   go_loopg [5] kj1 (fun kq v5 w' => ∃ (ap : List (List Int)) (lx : Int), v5 = .int .i64 lx ∧ Aside0 (spec_CirclesOf.l1 kq ap lx = some r) ∧ Aside0 (kq ≤ kj1) ∧ Aside0 (Kd.N (Kd.slice 3 (Kd.int .i64)) 22 w' w.heap.size (fun k_ => (w.heap.size ≤ k_) ∧ k_ ≠ al) u3 ap) ∧ Aside0 (w'.heap[al]? = some (.cells #[(.slice ae ab.length ac), (.slice ag aa.length af)] 25 (0, 0))) ∧ Aside0 (Below w.heap.size w w'))
   case atStart => exact ⟨(cn), (1), (g2_), H', ⟨Nat.le_refl _⟩, ⟨uf4_ ah⟩, ⟨uf0_ av⟩, ⟨bz⟩⟩
   case round =>
    clear H'
    try clear c1
    try clear p2
    try clear c6
    try clear fj
    try clear p6
    try clear c8
    try clear c9
    try clear b9
    try clear rq
    try clear rr
    try clear lh
    try clear li
    try clear bd3
    try clear bd4
    try clear ur
    try clear us
    try clear rs
    try clear rt
    try clear lj
    try clear lk
    try clear bd5
    try clear bd6
    try clear ut
    try clear uu
    try clear p2
    try clear p6
    obtain ⟨ap, lx, rfl, HA, HK2, ah, av, HB⟩ := hrel
    cases gk with
    | zero => exact absurd HA.out (by simp [spec_CirclesOf.l1])
    | succ k2 =>
     have H := HA.out
     clear HA
     simp only [spec_CirclesOf.l1] at H
     by_cases fa : lx < (ap.length : Int)
     ·rw [if_pos fa] at H
      have sy := decide_eq_true fa
      clear fa
      have H' := Aside0.mk H
      clear H
      obtain ⟨da5, bi, da6⟩ := Kd.N_slice ah.out
      subst da6
      go_wp2
      repeat (go_quiet (fail); try go_wp2)
      go_loopg [6] k2 (fun kq v6 w' => ∃ (ai : List (List Int)) (aw : Int), v6 = .int .i64 aw ∧ Aside0 (spec_CirclesOf.l2 kq ai lx aw = some r) ∧ Aside0 (kq ≤ k2) ∧ Aside0 (Kd.N (Kd.slice 3 (Kd.int .i64)) 22 w' w.heap.size (fun k_ => (w.heap.size ≤ k_) ∧ k_ ≠ al) (.slice da5 ap.length bi) ai) ∧ Aside0 (w'.heap[al]? = some (.cells #[(.slice ae ab.length ac), (.slice ag aa.length af)] 25 (0, 0))) ∧ Aside0 (Below w.heap.size w w'))
      case atStart => exact ⟨(ap), (lx), (g2_), H', ⟨Nat.le_refl _⟩, ⟨uf4_ ah⟩, ⟨uf0_ av⟩, ⟨bz⟩⟩
      case round =>
       clear H'
       (try clear c1); (try clear c2); (try clear p2); (try clear c6); (try clear fj); (try clear p6); (try clear c8); (try clear c9); (try clear b9); (try clear fa); (try clear sy); (try clear rq); (try clear rr); (try clear lh); (try clear li); (try clear bd3); (try clear bd4); (try clear ur); (try clear us); (try clear rs); (try clear rt); (try clear lj); (try clear lk); (try clear bd5); (try clear bd6); (try clear ut); (try clear uu); (try clear p2); try clear p6
       obtain ⟨ai, aw, rfl, HA, HK3, ah, av, HB⟩ := hrel
       have rf := (Kd.N_reads' ah.out).1
       rw [rf] at ah
       (try simp only [rf])
       (try simp only [rf] at av)
       cases gk with
       | zero => exact absurd HA.out (by simp [spec_CirclesOf.l2])
       | succ k3 =>
        have H := HA.out
        clear HA
        simp only [spec_CirclesOf.l2] at H
        by_cases gp : aw > 0
        ·rw [if_pos gp] at H
         have uv := decide_eq_true gp
         clear gp
         obtain ⟨o4, H⟩ := pos_ H
         have bm7 := decide_eq_true o4
         clear o4
         obtain ⟨es, H⟩ := pos_ H
         have ah3 := decide_eq_true es
         clear es
         obtain ⟨ji28, hji28⟩ : ∃ j_ : Int, (wrap64 (aw - 1)) = j_ := ⟨_, rfl⟩
         replace H : (if 0 ≤ (ji28) then (if (ji28) < (ai.length : Int) then ((spec_l3Before.f k3 (rd_L1 ai aw) (rd_L1 ai (ji28))).bind fun zx => (if zx = true then (spec_CirclesOf.l2 k3 ((ai.set (aw : Int).toNat (rd_L1 ai (ji28))).set ((ji28) : Int).toNat (rd_L1 ai aw)) lx ji28) else (spec_CirclesOf.l1 k3 ai (wrap64 (lx + 1))))) else (none)) else (none)) = some r := by first | (rw [hji28] at H; exact H) | (simp only [hji28] at H ⊢; exact H)
         have hji28w : (IntKind.i64.wrap (aw - 1)) = ji28 := (i64_w _).trans hji28
         obtain ⟨ly, H⟩ := pos_ H
         have bz3 := decide_eq_true ly
         clear ly
         obtain ⟨n9, H⟩ := pos_ H
         have al7 := decide_eq_true n9
         clear n9
         obtain ⟨zx, vw, H⟩ := bind_ H
         by_cases j9 : zx = true
         ·subst j9
          replace H := ifp_ H
          obtain ⟨m3, hy306⟩ : ∃ y_ : List (List Int), y_ = (ai.set (aw : Int).toNat (rd_L1 ai (ji28))) := ⟨_, rfl⟩
          replace H : (spec_CirclesOf.l2 k3 (m3.set ((ji28) : Int).toNat (rd_L1 ai aw)) lx ji28) = some r := by first | (rw [hy306]; with_reducible exact H) | (have H2_ := (Option.bind_some _ _).symm.trans H; rw [hy306]; with_reducible exact H2_) | (have H2_ := (Option.bind_some _ _).symm.trans H; with_reducible exact H2_) | with_reducible exact H | (rw [hy306]; exact H) | exact H
          have bd7 := Aside0.mk hy306
          clear hy306
          obtain ⟨zy, hy307⟩ : ∃ y_ : List (List Int), y_ = (m3.set ((ji28) : Int).toNat (rd_L1 ai aw)) := ⟨_, rfl⟩
          replace H : (spec_CirclesOf.l2 k3 zy lx ji28) = some r := by first | (rw [hy307]; with_reducible exact H) | (have H2_ := (Option.bind_some _ _).symm.trans H; rw [hy307]; with_reducible exact H2_) | (have H2_ := (Option.bind_some _ _).symm.trans H; with_reducible exact H2_) | with_reducible exact H | (rw [hy307]; exact H) | exact H
          have bd8 := Aside0.mk hy307
          clear hy307
          have H' := Aside0.mk H
          clear H
          have pr : 0 ≤ (aw : Int) := of_decide_eq_true (g0_)
          have ps : aw < (ai.length : Int) := of_decide_eq_true (g0_)
          obtain ⟨pt, oc, od, bd9, pu, zz, z8⟩ := at_L1 (Kd.N_reads' ah.out).2.2 aw pr ps
          cases bd9
          obtain ⟨ce301, hce301, hMe301, hcc301⟩ := Kd.N_get ah.out [] aw pr (by first | exact ps | exact of_decide_eq_true (g0_) | (have e_ := (Kd.N_reads' ah.out).1; omega))
          obtain ⟨ua301_0, uc301_0, rfl, ul301_0, ge301_0⟩ := Kd.FK_slice_open hMe301
          have hv301_0 := hcc301 0 _ rfl
          rw [Nat.add_zero, show ((Kd.slice 3 (Kd.int .i64))).sz = 1 from rfl, Nat.mul_one] at hv301_0
          replace hv301_0 := Option.some.inj (hv301_0.symm.trans pu)
          injection hv301_0 with hva_ hvn_ hvc_
          rw [hva_] at ge301_0
          rw [hvc_] at ul301_0
          have fe := Aside0.mk (show Kd.V (Kd.int .i64) 3 _ w.heap.size _ _ (rd_L1 ai aw) from Kd.V_mk ul301_0 ge301_0)
          clear hva_ hvn_ hvc_ ge301_0 ul301_0
          clear hcc301 hce301
          have be0 := Aside0.mk z8
          have ty := Aside0.mk zz
          clear z8 zz
          replace pr := eq_true pr
          replace ps := eq_true ps
          have pv : 0 ≤ ((ji28) : Int) := of_decide_eq_true (g0_)
          have pw : (ji28) < (ai.length : Int) := of_decide_eq_true (g0_)
          obtain ⟨be1, oe, og, be2, px, z9, aa0⟩ := at_L1 (Kd.N_reads' ah.out).2.2 (ji28) pv pw
          obtain rfl : pt = be1 := (by injection be2)
          obtain ⟨ce302, hce302, hMe302, hcc302⟩ := Kd.N_get ah.out [] (ji28) pv (by first | exact pw | exact of_decide_eq_true (g0_) | (have e_ := (Kd.N_reads' ah.out).1; omega))
          obtain ⟨ua302_0, uc302_0, rfl, ul302_0, ge302_0⟩ := Kd.FK_slice_open hMe302
          have hv302_0 := hcc302 0 _ rfl
          rw [Nat.add_zero, show ((Kd.slice 3 (Kd.int .i64))).sz = 1 from rfl, Nat.mul_one] at hv302_0
          replace hv302_0 := Option.some.inj (hv302_0.symm.trans px)
          injection hv302_0 with hva_ hvn_ hvc_
          rw [hva_] at ge302_0
          rw [hvc_] at ul302_0
          have ff := Aside0.mk (show Kd.V (Kd.int .i64) 3 _ w.heap.size _ _ (rd_L1 ai (ji28)) from Kd.V_mk ul302_0 ge302_0)
          clear hva_ hvn_ hvc_ ge302_0 ul302_0
          clear hcc302 hce302
          have be3 := Aside0.mk aa0
          have tz := Aside0.mk z9
          clear aa0 z9
          replace pv := eq_true pv
          replace pw := eq_true pw
          go_wp2_with (first | (go_at_call 114; (with_reducible refine (spec_l3Before.calls k3 _ _ (rd_L1 ai aw) _ _ (rd_L1 ai (ji28)) true _ ?side1 ?side2 ?side3 ?side4 vw.out).mono ?_); (case side1 => repeat (first | exact (g20_) | (with_reducible refine Kd.C_alloc ?_ _) | (with_reducible refine Kd.C_drewN ?_ _) | (with_reducible refine Kd.C_drew ?_))); (case side2 => exact ty.out); (case side3 => repeat (first | exact (g21_) | (with_reducible refine Kd.C_alloc ?_ _) | (with_reducible refine Kd.C_drewN ?_ _) | (with_reducible refine Kd.C_drew ?_))); (case side4 => exact tz.out); rintro e w' ⟨rfl, ⟨nd, rfl⟩⟩; (try first | exact ⟨rfl, _, World.drewN_drewN _ _ _⟩ | exact ⟨rfl, _, Eq.trans (World.drewN_drewN _ _ _) (congrArg (World.drewN _) (Nat.add_assoc _ _ _))⟩); have ka : 0 ≤ (aw : Int) := of_decide_eq_true (g0_); have lz : aw < (ai.length : Int) := of_decide_eq_true (g0_); obtain ⟨aa1, bz4, bz5, aa2, m4, rg, rh⟩ := at_L1 (Kd.N_reads' ah.out).2.2 aw ka lz; obtain rfl : pt = aa1 := (by injection aa2); obtain ⟨ce304, hce304, hMe304, hcc304⟩ := Kd.N_get ah.out [] aw ka (g55_); obtain ⟨ua304_0, uc304_0, rfl, ul304_0, ge304_0⟩ := Kd.FK_slice_open hMe304; have hv304_0 := hcc304 0 _ rfl; rw [Nat.add_zero, show ((Kd.slice 3 (Kd.int .i64))).sz = 1 from rfl, Nat.mul_one] at hv304_0; replace hv304_0 := Option.some.inj (hv304_0.symm.trans m4); injection hv304_0 with hva_ hvn_ hvc_; rw [hva_] at ge304_0; rw [hvc_] at ul304_0; have de := Aside0.mk (show Kd.V (Kd.int .i64) 3 _ w.heap.size _ _ (rd_L1 ai aw) from Kd.V_mk ul304_0 ge304_0); clear hva_ hvn_ hvc_ ge304_0 ul304_0; clear hcc304 hce304; have bz6 := Aside0.mk rh; have bz7 := Aside0.mk rg; clear rh rg; replace ka := eq_true ka; replace lz := eq_true lz; have ea_ := Option.some.inj (pu.symm.trans m4); injection ea_ with ea_ en_ ec_; subst ea_; subst ec_; clear en_; have kb : 0 ≤ ((ji28) : Int) := of_decide_eq_true (g0_); have l3 : (ji28) < (ai.length : Int) := of_decide_eq_true (g0_); obtain ⟨aa3, bz8, bz9, aa4, m5, ri, rj⟩ := at_L1 (Kd.N_reads' ah.out).2.2 (ji28) kb l3; obtain rfl : pt = aa3 := (by injection aa4); obtain ⟨ce305, hce305, hMe305, hcc305⟩ := Kd.N_get ah.out [] (ji28) kb (g56_); obtain ⟨ua305_0, uc305_0, rfl, ul305_0, ge305_0⟩ := Kd.FK_slice_open hMe305; have hv305_0 := hcc305 0 _ rfl; rw [Nat.add_zero, show ((Kd.slice 3 (Kd.int .i64))).sz = 1 from rfl, Nat.mul_one] at hv305_0; replace hv305_0 := Option.some.inj (hv305_0.symm.trans m5); injection hv305_0 with hva_ hvn_ hvc_; rw [hva_] at ge305_0; rw [hvc_] at ul305_0; have df := Aside0.mk (show Kd.V (Kd.int .i64) 3 _ w.heap.size _ _ (rd_L1 ai (ji28)) from Kd.V_mk ul305_0 ge305_0); clear hva_ hvn_ hvc_ ge305_0 ul305_0; clear hcc305 hce305; have ca0 := Aside0.mk rj; have ca1 := Aside0.mk ri; clear rj ri; replace kb := eq_true kb; replace l3 := eq_true l3; have ea_ := Option.some.inj (px.symm.trans m5); injection ea_ with ea_ en_ ec_; subst ea_; subst ec_; clear en_; have m6 : 0 ≤ (aw : Int) := of_decide_eq_true (g0_); have m7 : (aw : Int) < ((ai.length : Int) : Int) := of_decide_eq_true (g0_); obtain ⟨ar, ca2, rk, rl, gl33, cl33, HG33⟩ := Kd.N_form ah.out (by omega); (first | cases rk | (injection rk with ea_ en_ ec_; (first | subst ea_ | (injection ea_ with ea_; subst ea_)); subst ec_; clear en_)); have GB33 := Aside0.mk rl; have GG33 := Aside0.mk HG33; clear rl gl33 HG33; (first | simp only [add_plain] at pu | skip); (first | simp only [add_plain] at px | skip); (first | simp only [add_plain] at m4 | skip); (first | simp only [add_plain] at m5 | skip); obtain ⟨ce33, hcl33, hM33, hcc33, hfr33⟩ := Kd.N_elem ah.out [] (aw : Int) m6 m7; obtain ⟨ua33_0, uc33_0, rfl, ul33_0, ge33_0⟩ := Kd.FK_slice_open hM33; have aa5 := hcc33 0 _ rfl; have hf33_0 := hfr33 0; (try simp only [show ((Kd.slice 3 (Kd.int .i64))).sz = 1 from rfl, Nat.mul_one, Nat.add_zero] at aa5); (try simp only [show ((Kd.slice 3 (Kd.int .i64))).sz = 1 from rfl, Nat.mul_one, Nat.add_zero] at hf33_0); clear hcl33 hcc33 hfr33 hM33; replace m6 := eq_true m6; replace m7 := eq_true m7; have HX35 := Aside0.mk (show Kd.N (Kd.slice 3 (Kd.int .i64)) 22 wr w.heap.size (fun k_ => (w.heap.size ≤ k_) ∧ k_ ≠ al) (.slice (some ⟨ar, 0, none⟩) ai.length bi) ai from (uf4_ ah)); obtain ⟨ce35, hcl35, hM35, hcc35, hfr35⟩ := Kd.N_elem HX35.out [] (aw : Int) (of_decide_eq_true (g0_)) (by have h_ : (aw : Int) < ((ai.length : Int) : Int) := of_decide_eq_true (g0_); first | exact h_ | (have e_ := (Kd.N_reads' ah.out).1; omega) | simpa using h_); obtain ⟨ua35_0, uc35_0, rfl, ul35_0, ge35_0⟩ := Kd.FK_slice_open hM35; have HP35 := Kd.N_seg HX35.out (aw : Int) (of_decide_eq_true (g0_)) (by have h_ : (aw : Int) < ((ai.length : Int) : Int) := of_decide_eq_true (g0_); first | exact h_ | (have e_ := (Kd.N_reads' ah.out).1; omega) | simpa using h_) (seg := [.slice oe (rd_L1 ai (ji28)).length og]) (j := 0) hcl35 hcc35 (show 1 ≤ 1 from by decide) (x' := rd_L1 ai (ji28)) (Kd.FK_slice_mk (Kd.V_reads' (Kd.V_mono (ok' := (fun k_ => ((fun k_ => (w.heap.size ≤ k_) ∧ k_ ≠ al)) k_ ∧ k_ ≠ ar)) (df.out) (fun k_ hk => ⟨⟨hk.1.1, hk.1.2⟩, fun e_ => (hk.2) (g6_)⟩))).2.1 (Kd.V_F (Kd.V_mono (ok' := (fun k_ => ((fun k_ => (w.heap.size ≤ k_) ∧ k_ ≠ al)) k_ ∧ k_ ≠ ar)) (df.out) (fun k_ hk => ⟨⟨hk.1.1, hk.1.2⟩, fun e_ => (hk.2) (g6_)⟩)))) (fun _ hk => hk); have m8 := hcc35 0 _ rfl; (try simp only [show ((Kd.slice 3 (Kd.int .i64))).sz = 1 from rfl, Nat.mul_one, Nat.add_zero] at m8); have hf35_0 := hfr35 0; (try simp only [show ((Kd.slice 3 (Kd.int .i64))).sz = 1 from rfl, Nat.mul_one, Nat.add_zero] at hf35_0); clear hcl35 hcc35 hfr35 hM35; (try simp only [show ((Kd.slice 3 (Kd.int .i64))).sz = 1 from rfl, Nat.mul_one, Nat.add_zero] at HP35); (try simp only [show ((Kd.slice 3 (Kd.int .i64))).sz = 1 from rfl, Nat.mul_one, Nat.add_zero] at HP35)) | ((with_reducible refine gate_store (t := 22) (p := 60) rfl ?_); (try (rw [drewN_self wr]; generalize hq_ : World.drewN wr _ = wr; replace ah := Aside0.mk (Kd.N_at hq_ ah.out); replace fe := Aside0.mk (spec_CirclesOf.V_atq hq_ fe.out); replace ff := Aside0.mk (spec_CirclesOf.V_atq hq_ ff.out); replace de := Aside0.mk (spec_CirclesOf.V_atq hq_ de.out); replace df := Aside0.mk (spec_CirclesOf.V_atq hq_ df.out); replace av := Aside0.mk (blk_at hq_ av.out); replace HB := Aside0.mk (below_at hq_ HB.out); clear hq_; (try (have HX35 := Aside0.mk (show Kd.N (Kd.slice 3 (Kd.int .i64)) 22 wr w.heap.size (fun k_ => (w.heap.size ≤ k_) ∧ k_ ≠ al) (.slice (some ⟨ar, 0, none⟩) ai.length bi) ai from (uf4_ ah)))); (try (obtain ⟨ce35, hcl35, hM35, hcc35, hfr35⟩ := Kd.N_elem HX35.out [] (aw : Int) (of_decide_eq_true (g0_)) (by have h_ : (aw : Int) < ((ai.length : Int) : Int) := of_decide_eq_true (g0_); first | exact h_ | (have e_ := (Kd.N_reads' ah.out).1; omega) | simpa using h_))); (try (obtain ⟨ua35_0, uc35_0, rfl, ul35_0, ge35_0⟩ := Kd.FK_slice_open hM35)); (try (have HP35 := Kd.N_seg HX35.out (aw : Int) (of_decide_eq_true (g0_)) (by have h_ : (aw : Int) < ((ai.length : Int) : Int) := of_decide_eq_true (g0_); first | exact h_ | (have e_ := (Kd.N_reads' ah.out).1; omega) | simpa using h_) (seg := [.slice oe (rd_L1 ai (ji28)).length og]) (j := 0) hcl35 hcc35 (show 1 ≤ 1 from by decide) (x' := rd_L1 ai (ji28)) (Kd.FK_slice_mk (Kd.V_reads' (Kd.V_mono (ok' := (fun k_ => ((fun k_ => (w.heap.size ≤ k_) ∧ k_ ≠ al)) k_ ∧ k_ ≠ ar)) (df.out) (fun k_ hk => ⟨⟨hk.1.1, hk.1.2⟩, fun e_ => (hk.2) (g6_)⟩))).2.1 (Kd.V_F (Kd.V_mono (ok' := (fun k_ => ((fun k_ => (w.heap.size ≤ k_) ∧ k_ ≠ al)) k_ ∧ k_ ≠ ar)) (df.out) (fun k_ hk => ⟨⟨hk.1.1, hk.1.2⟩, fun e_ => (hk.2) (g6_)⟩)))) (fun _ hk => hk))); (try (have m8 := hcc35 0 _ rfl)); (try (try simp only [show ((Kd.slice 3 (Kd.int .i64))).sz = 1 from rfl, Nat.mul_one, Nat.add_zero] at m8)); (try (have hf35_0 := hfr35 0)); (try (try simp only [show ((Kd.slice 3 (Kd.int .i64))).sz = 1 from rfl, Nat.mul_one, Nat.add_zero] at hf35_0)); (try (clear hcl35 hcc35 hfr35 hM35)); (try (try simp only [show ((Kd.slice 3 (Kd.int .i64))).sz = 1 from rfl, Nat.mul_one, Nat.add_zero] at HP35)); (try (try simp only [show ((Kd.slice 3 (Kd.int .i64))).sz = 1 from rfl, Nat.mul_one, Nat.add_zero] at HP35)))); refine store_event (t := 22) (p := 60) (v := ?vo_w36) (w1 := (wr.setCell ⟨ar, (aw : Int).toNat, none⟩ (.slice oe (rd_L1 ai (ji28)).length og))) ?hg ?ho ?hn ?hr ?_; (case ho => rfl); (case hg => rfl); (case hn => rfl); (case hr => first | (go_simp; done) | (go_simp; rfl)); intro dx hw; have hg : wr.grownBy dx (some ar) := (by rw [hw]; exact HP35.2); have hp_ : Kd.N (Kd.slice 3 (Kd.int .i64)) 22 dx w.heap.size (fun k_ => (w.heap.size ≤ k_) ∧ k_ ≠ al) (.slice (some ⟨ar, 0, none⟩) ai.length bi) m3 := (by rw [hw, bd7.out]; exact HP35.1); clear HP35; replace av := Aside0.mk (blk_grown (g := al) (o := .cells #[.slice ae ab.length ac, .slice ag aa.length af] 25 (0, 0)) (uf0_ av) hg (Kd.N_ne ah.out av.out (by decide))); replace ah := Aside0.mk (hp_); replace fe := Aside0.mk (Kd.V_afterv (v := (.slice (some ⟨ar, 0, none⟩) ai.length bi)) (v1 := (.slice (some ⟨ar, 0, none⟩) ai.length bi)) (ok := (fun k_ => (w.heap.size ≤ k_) ∧ k_ ≠ al)) (uf5_ fe) hg (.inl rfl)); replace ff := Aside0.mk (Kd.V_afterv (v := (.slice (some ⟨ar, 0, none⟩) ai.length bi)) (v1 := (.slice (some ⟨ar, 0, none⟩) ai.length bi)) (ok := (fun k_ => (w.heap.size ≤ k_) ∧ k_ ≠ al)) (uf5_ ff) hg (.inl rfl)); replace de := Aside0.mk (Kd.V_afterv (v := (.slice (some ⟨ar, 0, none⟩) ai.length bi)) (v1 := (.slice (some ⟨ar, 0, none⟩) ai.length bi)) (ok := (fun k_ => (w.heap.size ≤ k_) ∧ k_ ≠ al)) (uf5_ de) hg (.inl rfl)); replace df := Aside0.mk (Kd.V_afterv (v := (.slice (some ⟨ar, 0, none⟩) ai.length bi)) (v1 := (.slice (some ⟨ar, 0, none⟩) ai.length bi)) (ok := (fun k_ => (w.heap.size ≤ k_) ∧ k_ ≠ al)) (uf5_ df) hg (.inl rfl)); replace HB := Aside0.mk ((g22_ : Below w.heap.size w dx)); clear hg hw hp_; have m9 : 0 ≤ ((ji28) : Int) := of_decide_eq_true (g0_); have na : ((ji28) : Int) < ((ai.length : Int) : Int) := of_decide_eq_true (g0_); obtain ⟨ce34, hcl34, hM34, hcc34, hfr34⟩ := Kd.N_elem ah.out [] ((ji28) : Int) m9 na; obtain ⟨ua34_0, uc34_0, rfl, ul34_0, ge34_0⟩ := Kd.FK_slice_open hM34; have aa6 := hcc34 0 _ rfl; have hf34_0 := hfr34 0; (try simp only [show ((Kd.slice 3 (Kd.int .i64))).sz = 1 from rfl, Nat.mul_one, Nat.add_zero] at aa6); (try simp only [show ((Kd.slice 3 (Kd.int .i64))).sz = 1 from rfl, Nat.mul_one, Nat.add_zero] at hf34_0); clear hcl34 hcc34 hfr34 hM34; replace m9 := eq_true m9; replace na := eq_true na; have HX37 := Aside0.mk (show Kd.N (Kd.slice 3 (Kd.int .i64)) 22 dx w.heap.size (fun k_ => (w.heap.size ≤ k_) ∧ k_ ≠ al) (.slice (some ⟨ar, 0, none⟩) ai.length bi) m3 from (uf4_ ah)); obtain ⟨ce37, hcl37, hM37, hcc37, hfr37⟩ := Kd.N_elem HX37.out [] ((ji28) : Int) (of_decide_eq_true (g0_)) (by have h_ : ((ji28) : Int) < ((ai.length : Int) : Int) := of_decide_eq_true (g0_); first | exact h_ | (have e_ := (Kd.N_reads' ah.out).1; omega) | simpa using h_); obtain ⟨ua37_0, uc37_0, rfl, ul37_0, ge37_0⟩ := Kd.FK_slice_open hM37; have HP37 := Kd.N_seg HX37.out ((ji28) : Int) (of_decide_eq_true (g0_)) (by have h_ : ((ji28) : Int) < ((ai.length : Int) : Int) := of_decide_eq_true (g0_); first | exact h_ | (have e_ := (Kd.N_reads' ah.out).1; omega) | simpa using h_) (seg := [.slice oc (rd_L1 ai aw).length od]) (j := 0) hcl37 hcc37 (show 1 ≤ 1 from by decide) (x' := rd_L1 ai aw) (Kd.FK_slice_mk (Kd.V_reads' (Kd.V_mono (ok' := (fun k_ => ((fun k_ => (w.heap.size ≤ k_) ∧ k_ ≠ al)) k_ ∧ k_ ≠ ar)) (de.out) (fun k_ hk => ⟨⟨hk.1.1, hk.1.2⟩, fun e_ => (hk.2) (g6_)⟩))).2.1 (Kd.V_F (Kd.V_mono (ok' := (fun k_ => ((fun k_ => (w.heap.size ≤ k_) ∧ k_ ≠ al)) k_ ∧ k_ ≠ ar)) (de.out) (fun k_ hk => ⟨⟨hk.1.1, hk.1.2⟩, fun e_ => (hk.2) (g6_)⟩)))) (fun _ hk => hk); have nc := hcc37 0 _ rfl; (try simp only [show ((Kd.slice 3 (Kd.int .i64))).sz = 1 from rfl, Nat.mul_one, Nat.add_zero] at nc); have hf37_0 := hfr37 0; (try simp only [show ((Kd.slice 3 (Kd.int .i64))).sz = 1 from rfl, Nat.mul_one, Nat.add_zero] at hf37_0); clear hcl37 hcc37 hfr37 hM37; (try simp only [show ((Kd.slice 3 (Kd.int .i64))).sz = 1 from rfl, Nat.mul_one, Nat.add_zero] at HP37); (try simp only [show ((Kd.slice 3 (Kd.int .i64))).sz = 1 from rfl, Nat.mul_one, Nat.add_zero] at HP37)) | ((with_reducible refine gate_store (t := 22) (p := 65) rfl ?_); (try (rw [drewN_self dx]; generalize hq_ : World.drewN dx _ = dx; replace ah := Aside0.mk (Kd.N_at hq_ ah.out); replace fe := Aside0.mk (spec_CirclesOf.V_atq hq_ fe.out); replace ff := Aside0.mk (spec_CirclesOf.V_atq hq_ ff.out); replace de := Aside0.mk (spec_CirclesOf.V_atq hq_ de.out); replace df := Aside0.mk (spec_CirclesOf.V_atq hq_ df.out); replace av := Aside0.mk (blk_at hq_ av.out); replace HB := Aside0.mk (below_at hq_ HB.out); clear hq_; (try (have HX37 := Aside0.mk (show Kd.N (Kd.slice 3 (Kd.int .i64)) 22 dx w.heap.size (fun k_ => (w.heap.size ≤ k_) ∧ k_ ≠ al) (.slice (some ⟨ar, 0, none⟩) ai.length bi) m3 from (uf4_ ah)))); (try (obtain ⟨ce37, hcl37, hM37, hcc37, hfr37⟩ := Kd.N_elem HX37.out [] ((ji28) : Int) (of_decide_eq_true (g0_)) (by have h_ : ((ji28) : Int) < ((ai.length : Int) : Int) := of_decide_eq_true (g0_); first | exact h_ | (have e_ := (Kd.N_reads' ah.out).1; omega) | simpa using h_))); (try (obtain ⟨ua37_0, uc37_0, rfl, ul37_0, ge37_0⟩ := Kd.FK_slice_open hM37)); (try (have HP37 := Kd.N_seg HX37.out ((ji28) : Int) (of_decide_eq_true (g0_)) (by have h_ : ((ji28) : Int) < ((ai.length : Int) : Int) := of_decide_eq_true (g0_); first | exact h_ | (have e_ := (Kd.N_reads' ah.out).1; omega) | simpa using h_) (seg := [.slice oc (rd_L1 ai aw).length od]) (j := 0) hcl37 hcc37 (show 1 ≤ 1 from by decide) (x' := rd_L1 ai aw) (Kd.FK_slice_mk (Kd.V_reads' (Kd.V_mono (ok' := (fun k_ => ((fun k_ => (w.heap.size ≤ k_) ∧ k_ ≠ al)) k_ ∧ k_ ≠ ar)) (de.out) (fun k_ hk => ⟨⟨hk.1.1, hk.1.2⟩, fun e_ => (hk.2) (g6_)⟩))).2.1 (Kd.V_F (Kd.V_mono (ok' := (fun k_ => ((fun k_ => (w.heap.size ≤ k_) ∧ k_ ≠ al)) k_ ∧ k_ ≠ ar)) (de.out) (fun k_ hk => ⟨⟨hk.1.1, hk.1.2⟩, fun e_ => (hk.2) (g6_)⟩)))) (fun _ hk => hk))); (try (have nc := hcc37 0 _ rfl)); (try (try simp only [show ((Kd.slice 3 (Kd.int .i64))).sz = 1 from rfl, Nat.mul_one, Nat.add_zero] at nc)); (try (have hf37_0 := hfr37 0)); (try (try simp only [show ((Kd.slice 3 (Kd.int .i64))).sz = 1 from rfl, Nat.mul_one, Nat.add_zero] at hf37_0)); (try (clear hcl37 hcc37 hfr37 hM37)); (try (try simp only [show ((Kd.slice 3 (Kd.int .i64))).sz = 1 from rfl, Nat.mul_one, Nat.add_zero] at HP37)); (try (try simp only [show ((Kd.slice 3 (Kd.int .i64))).sz = 1 from rfl, Nat.mul_one, Nat.add_zero] at HP37)))); refine store_event (t := 22) (p := 65) (v := ?vo_w38) (w1 := (dx.setCell ⟨ar, ((ji28) : Int).toNat, none⟩ (.slice oc (rd_L1 ai aw).length od))) ?hg ?ho ?hn ?hr ?_; (case ho => rfl); (case hg => rfl); (case hn => rfl); (case hr => first | (go_simp; done) | (go_simp; rfl)); intro nf hw; have hg : dx.grownBy nf (some ar) := (by rw [hw]; exact HP37.2); have hp_ : Kd.N (Kd.slice 3 (Kd.int .i64)) 22 nf w.heap.size (fun k_ => (w.heap.size ≤ k_) ∧ k_ ≠ al) (.slice (some ⟨ar, 0, none⟩) ai.length bi) zy := (by rw [hw, bd8.out]; exact HP37.1); clear HP37; replace av := Aside0.mk (blk_grown (g := al) (o := .cells #[.slice ae ab.length ac, .slice ag aa.length af] 25 (0, 0)) (uf0_ av) hg (Kd.N_ne ah.out av.out (by decide))); replace ah := Aside0.mk (hp_); replace fe := Aside0.mk (Kd.V_afterv (v := (.slice (some ⟨ar, 0, none⟩) ai.length bi)) (v1 := (.slice (some ⟨ar, 0, none⟩) ai.length bi)) (ok := (fun k_ => (w.heap.size ≤ k_) ∧ k_ ≠ al)) (uf5_ fe) hg (.inl rfl)); replace ff := Aside0.mk (Kd.V_afterv (v := (.slice (some ⟨ar, 0, none⟩) ai.length bi)) (v1 := (.slice (some ⟨ar, 0, none⟩) ai.length bi)) (ok := (fun k_ => (w.heap.size ≤ k_) ∧ k_ ≠ al)) (uf5_ ff) hg (.inl rfl)); replace de := Aside0.mk (Kd.V_afterv (v := (.slice (some ⟨ar, 0, none⟩) ai.length bi)) (v1 := (.slice (some ⟨ar, 0, none⟩) ai.length bi)) (ok := (fun k_ => (w.heap.size ≤ k_) ∧ k_ ≠ al)) (uf5_ de) hg (.inl rfl)); replace df := Aside0.mk (Kd.V_afterv (v := (.slice (some ⟨ar, 0, none⟩) ai.length bi)) (v1 := (.slice (some ⟨ar, 0, none⟩) ai.length bi)) (ok := (fun k_ => (w.heap.size ≤ k_) ∧ k_ ≠ al)) (uf5_ df) hg (.inl rfl)); replace HB := Aside0.mk ((g22_ : Below w.heap.size w nf)); clear hg hw hp_))
          repeat (go_quiet (first | (go_at_call 114; (with_reducible refine (spec_l3Before.calls k3 _ _ (rd_L1 ai aw) _ _ (rd_L1 ai (ji28)) true _ ?side1 ?side2 ?side3 ?side4 vw.out).mono ?_); (case side1 => repeat (first | exact (g20_) | (with_reducible refine Kd.C_alloc ?_ _) | (with_reducible refine Kd.C_drewN ?_ _) | (with_reducible refine Kd.C_drew ?_))); (case side2 => exact ty.out); (case side3 => repeat (first | exact (g21_) | (with_reducible refine Kd.C_alloc ?_ _) | (with_reducible refine Kd.C_drewN ?_ _) | (with_reducible refine Kd.C_drew ?_))); (case side4 => exact tz.out); rintro e w' ⟨rfl, ⟨nd, rfl⟩⟩; (try first | exact ⟨rfl, _, World.drewN_drewN _ _ _⟩ | exact ⟨rfl, _, Eq.trans (World.drewN_drewN _ _ _) (congrArg (World.drewN _) (Nat.add_assoc _ _ _))⟩); have ka : 0 ≤ (aw : Int) := of_decide_eq_true (g0_); have lz : aw < (ai.length : Int) := of_decide_eq_true (g0_); obtain ⟨aa1, bz4, bz5, aa2, m4, rg, rh⟩ := at_L1 (Kd.N_reads' ah.out).2.2 aw ka lz; obtain rfl : pt = aa1 := (by injection aa2); obtain ⟨ce304, hce304, hMe304, hcc304⟩ := Kd.N_get ah.out [] aw ka (g55_); obtain ⟨ua304_0, uc304_0, rfl, ul304_0, ge304_0⟩ := Kd.FK_slice_open hMe304; have hv304_0 := hcc304 0 _ rfl; rw [Nat.add_zero, show ((Kd.slice 3 (Kd.int .i64))).sz = 1 from rfl, Nat.mul_one] at hv304_0; replace hv304_0 := Option.some.inj (hv304_0.symm.trans m4); injection hv304_0 with hva_ hvn_ hvc_; rw [hva_] at ge304_0; rw [hvc_] at ul304_0; have de := Aside0.mk (show Kd.V (Kd.int .i64) 3 _ w.heap.size _ _ (rd_L1 ai aw) from Kd.V_mk ul304_0 ge304_0); clear hva_ hvn_ hvc_ ge304_0 ul304_0; clear hcc304 hce304; have bz6 := Aside0.mk rh; have bz7 := Aside0.mk rg; clear rh rg; replace ka := eq_true ka; replace lz := eq_true lz; have ea_ := Option.some.inj (pu.symm.trans m4); injection ea_ with ea_ en_ ec_; subst ea_; subst ec_; clear en_; have kb : 0 ≤ ((ji28) : Int) := of_decide_eq_true (g0_); have l3 : (ji28) < (ai.length : Int) := of_decide_eq_true (g0_); obtain ⟨aa3, bz8, bz9, aa4, m5, ri, rj⟩ := at_L1 (Kd.N_reads' ah.out).2.2 (ji28) kb l3; obtain rfl : pt = aa3 := (by injection aa4); obtain ⟨ce305, hce305, hMe305, hcc305⟩ := Kd.N_get ah.out [] (ji28) kb (g56_); obtain ⟨ua305_0, uc305_0, rfl, ul305_0, ge305_0⟩ := Kd.FK_slice_open hMe305; have hv305_0 := hcc305 0 _ rfl; rw [Nat.add_zero, show ((Kd.slice 3 (Kd.int .i64))).sz = 1 from rfl, Nat.mul_one] at hv305_0; replace hv305_0 := Option.some.inj (hv305_0.symm.trans m5); injection hv305_0 with hva_ hvn_ hvc_; rw [hva_] at ge305_0; rw [hvc_] at ul305_0; have df := Aside0.mk (show Kd.V (Kd.int .i64) 3 _ w.heap.size _ _ (rd_L1 ai (ji28)) from Kd.V_mk ul305_0 ge305_0); clear hva_ hvn_ hvc_ ge305_0 ul305_0; clear hcc305 hce305; have ca0 := Aside0.mk rj; have ca1 := Aside0.mk ri; clear rj ri; replace kb := eq_true kb; replace l3 := eq_true l3; have ea_ := Option.some.inj (px.symm.trans m5); injection ea_ with ea_ en_ ec_; subst ea_; subst ec_; clear en_; have m6 : 0 ≤ (aw : Int) := of_decide_eq_true (g0_); have m7 : (aw : Int) < ((ai.length : Int) : Int) := of_decide_eq_true (g0_); obtain ⟨ar, ca2, rk, rl, gl33, cl33, HG33⟩ := Kd.N_form ah.out (by omega); (first | cases rk | (injection rk with ea_ en_ ec_; (first | subst ea_ | (injection ea_ with ea_; subst ea_)); subst ec_; clear en_)); have GB33 := Aside0.mk rl; have GG33 := Aside0.mk HG33; clear rl gl33 HG33; (first | simp only [add_plain] at pu | skip); (first | simp only [add_plain] at px | skip); (first | simp only [add_plain] at m4 | skip); (first | simp only [add_plain] at m5 | skip); obtain ⟨ce33, hcl33, hM33, hcc33, hfr33⟩ := Kd.N_elem ah.out [] (aw : Int) m6 m7; obtain ⟨ua33_0, uc33_0, rfl, ul33_0, ge33_0⟩ := Kd.FK_slice_open hM33; have aa5 := hcc33 0 _ rfl; have hf33_0 := hfr33 0; (try simp only [show ((Kd.slice 3 (Kd.int .i64))).sz = 1 from rfl, Nat.mul_one, Nat.add_zero] at aa5); (try simp only [show ((Kd.slice 3 (Kd.int .i64))).sz = 1 from rfl, Nat.mul_one, Nat.add_zero] at hf33_0); clear hcl33 hcc33 hfr33 hM33; replace m6 := eq_true m6; replace m7 := eq_true m7; have HX35 := Aside0.mk (show Kd.N (Kd.slice 3 (Kd.int .i64)) 22 wr w.heap.size (fun k_ => (w.heap.size ≤ k_) ∧ k_ ≠ al) (.slice (some ⟨ar, 0, none⟩) ai.length bi) ai from (uf4_ ah)); obtain ⟨ce35, hcl35, hM35, hcc35, hfr35⟩ := Kd.N_elem HX35.out [] (aw : Int) (of_decide_eq_true (g0_)) (by have h_ : (aw : Int) < ((ai.length : Int) : Int) := of_decide_eq_true (g0_); first | exact h_ | (have e_ := (Kd.N_reads' ah.out).1; omega) | simpa using h_); obtain ⟨ua35_0, uc35_0, rfl, ul35_0, ge35_0⟩ := Kd.FK_slice_open hM35; have HP35 := Kd.N_seg HX35.out (aw : Int) (of_decide_eq_true (g0_)) (by have h_ : (aw : Int) < ((ai.length : Int) : Int) := of_decide_eq_true (g0_); first | exact h_ | (have e_ := (Kd.N_reads' ah.out).1; omega) | simpa using h_) (seg := [.slice oe (rd_L1 ai (ji28)).length og]) (j := 0) hcl35 hcc35 (show 1 ≤ 1 from by decide) (x' := rd_L1 ai (ji28)) (Kd.FK_slice_mk (Kd.V_reads' (Kd.V_mono (ok' := (fun k_ => ((fun k_ => (w.heap.size ≤ k_) ∧ k_ ≠ al)) k_ ∧ k_ ≠ ar)) (df.out) (fun k_ hk => ⟨⟨hk.1.1, hk.1.2⟩, fun e_ => (hk.2) (g6_)⟩))).2.1 (Kd.V_F (Kd.V_mono (ok' := (fun k_ => ((fun k_ => (w.heap.size ≤ k_) ∧ k_ ≠ al)) k_ ∧ k_ ≠ ar)) (df.out) (fun k_ hk => ⟨⟨hk.1.1, hk.1.2⟩, fun e_ => (hk.2) (g6_)⟩)))) (fun _ hk => hk); have m8 := hcc35 0 _ rfl; (try simp only [show ((Kd.slice 3 (Kd.int .i64))).sz = 1 from rfl, Nat.mul_one, Nat.add_zero] at m8); have hf35_0 := hfr35 0; (try simp only [show ((Kd.slice 3 (Kd.int .i64))).sz = 1 from rfl, Nat.mul_one, Nat.add_zero] at hf35_0); clear hcl35 hcc35 hfr35 hM35; (try simp only [show ((Kd.slice 3 (Kd.int .i64))).sz = 1 from rfl, Nat.mul_one, Nat.add_zero] at HP35); (try simp only [show ((Kd.slice 3 (Kd.int .i64))).sz = 1 from rfl, Nat.mul_one, Nat.add_zero] at HP35)) | ((with_reducible refine gate_store (t := 22) (p := 60) rfl ?_); (try (rw [drewN_self wr]; generalize hq_ : World.drewN wr _ = wr; replace ah := Aside0.mk (Kd.N_at hq_ ah.out); replace fe := Aside0.mk (spec_CirclesOf.V_atq hq_ fe.out); replace ff := Aside0.mk (spec_CirclesOf.V_atq hq_ ff.out); replace de := Aside0.mk (spec_CirclesOf.V_atq hq_ de.out); replace df := Aside0.mk (spec_CirclesOf.V_atq hq_ df.out); replace av := Aside0.mk (blk_at hq_ av.out); replace HB := Aside0.mk (below_at hq_ HB.out); clear hq_; (try (have HX35 := Aside0.mk (show Kd.N (Kd.slice 3 (Kd.int .i64)) 22 wr w.heap.size (fun k_ => (w.heap.size ≤ k_) ∧ k_ ≠ al) (.slice (some ⟨ar, 0, none⟩) ai.length bi) ai from (uf4_ ah)))); (try (obtain ⟨ce35, hcl35, hM35, hcc35, hfr35⟩ := Kd.N_elem HX35.out [] (aw : Int) (of_decide_eq_true (g0_)) (by have h_ : (aw : Int) < ((ai.length : Int) : Int) := of_decide_eq_true (g0_); first | exact h_ | (have e_ := (Kd.N_reads' ah.out).1; omega) | simpa using h_))); (try (obtain ⟨ua35_0, uc35_0, rfl, ul35_0, ge35_0⟩ := Kd.FK_slice_open hM35)); (try (have HP35 := Kd.N_seg HX35.out (aw : Int) (of_decide_eq_true (g0_)) (by have h_ : (aw : Int) < ((ai.length : Int) : Int) := of_decide_eq_true (g0_); first | exact h_ | (have e_ := (Kd.N_reads' ah.out).1; omega) | simpa using h_) (seg := [.slice oe (rd_L1 ai (ji28)).length og]) (j := 0) hcl35 hcc35 (show 1 ≤ 1 from by decide) (x' := rd_L1 ai (ji28)) (Kd.FK_slice_mk (Kd.V_reads' (Kd.V_mono (ok' := (fun k_ => ((fun k_ => (w.heap.size ≤ k_) ∧ k_ ≠ al)) k_ ∧ k_ ≠ ar)) (df.out) (fun k_ hk => ⟨⟨hk.1.1, hk.1.2⟩, fun e_ => (hk.2) (g6_)⟩))).2.1 (Kd.V_F (Kd.V_mono (ok' := (fun k_ => ((fun k_ => (w.heap.size ≤ k_) ∧ k_ ≠ al)) k_ ∧ k_ ≠ ar)) (df.out) (fun k_ hk => ⟨⟨hk.1.1, hk.1.2⟩, fun e_ => (hk.2) (g6_)⟩)))) (fun _ hk => hk))); (try (have m8 := hcc35 0 _ rfl)); (try (try simp only [show ((Kd.slice 3 (Kd.int .i64))).sz = 1 from rfl, Nat.mul_one, Nat.add_zero] at m8)); (try (have hf35_0 := hfr35 0)); (try (try simp only [show ((Kd.slice 3 (Kd.int .i64))).sz = 1 from rfl, Nat.mul_one, Nat.add_zero] at hf35_0)); (try (clear hcl35 hcc35 hfr35 hM35)); (try (try simp only [show ((Kd.slice 3 (Kd.int .i64))).sz = 1 from rfl, Nat.mul_one, Nat.add_zero] at HP35)); (try (try simp only [show ((Kd.slice 3 (Kd.int .i64))).sz = 1 from rfl, Nat.mul_one, Nat.add_zero] at HP35)))); refine store_event (t := 22) (p := 60) (v := ?vo_w36) (w1 := (wr.setCell ⟨ar, (aw : Int).toNat, none⟩ (.slice oe (rd_L1 ai (ji28)).length og))) ?hg ?ho ?hn ?hr ?_; (case ho => rfl); (case hg => rfl); (case hn => rfl); (case hr => first | (go_simp; done) | (go_simp; rfl)); intro dx hw; have hg : wr.grownBy dx (some ar) := (by rw [hw]; exact HP35.2); have hp_ : Kd.N (Kd.slice 3 (Kd.int .i64)) 22 dx w.heap.size (fun k_ => (w.heap.size ≤ k_) ∧ k_ ≠ al) (.slice (some ⟨ar, 0, none⟩) ai.length bi) m3 := (by rw [hw, bd7.out]; exact HP35.1); clear HP35; replace av := Aside0.mk (blk_grown (g := al) (o := .cells #[.slice ae ab.length ac, .slice ag aa.length af] 25 (0, 0)) (uf0_ av) hg (Kd.N_ne ah.out av.out (by decide))); replace ah := Aside0.mk (hp_); replace fe := Aside0.mk (Kd.V_afterv (v := (.slice (some ⟨ar, 0, none⟩) ai.length bi)) (v1 := (.slice (some ⟨ar, 0, none⟩) ai.length bi)) (ok := (fun k_ => (w.heap.size ≤ k_) ∧ k_ ≠ al)) (uf5_ fe) hg (.inl rfl)); replace ff := Aside0.mk (Kd.V_afterv (v := (.slice (some ⟨ar, 0, none⟩) ai.length bi)) (v1 := (.slice (some ⟨ar, 0, none⟩) ai.length bi)) (ok := (fun k_ => (w.heap.size ≤ k_) ∧ k_ ≠ al)) (uf5_ ff) hg (.inl rfl)); replace de := Aside0.mk (Kd.V_afterv (v := (.slice (some ⟨ar, 0, none⟩) ai.length bi)) (v1 := (.slice (some ⟨ar, 0, none⟩) ai.length bi)) (ok := (fun k_ => (w.heap.size ≤ k_) ∧ k_ ≠ al)) (uf5_ de) hg (.inl rfl)); replace df := Aside0.mk (Kd.V_afterv (v := (.slice (some ⟨ar, 0, none⟩) ai.length bi)) (v1 := (.slice (some ⟨ar, 0, none⟩) ai.length bi)) (ok := (fun k_ => (w.heap.size ≤ k_) ∧ k_ ≠ al)) (uf5_ df) hg (.inl rfl)); replace HB := Aside0.mk ((g22_ : Below w.heap.size w dx)); clear hg hw hp_; have m9 : 0 ≤ ((ji28) : Int) := of_decide_eq_true (g0_); have na : ((ji28) : Int) < ((ai.length : Int) : Int) := of_decide_eq_true (g0_); obtain ⟨ce34, hcl34, hM34, hcc34, hfr34⟩ := Kd.N_elem ah.out [] ((ji28) : Int) m9 na; obtain ⟨ua34_0, uc34_0, rfl, ul34_0, ge34_0⟩ := Kd.FK_slice_open hM34; have aa6 := hcc34 0 _ rfl; have hf34_0 := hfr34 0; (try simp only [show ((Kd.slice 3 (Kd.int .i64))).sz = 1 from rfl, Nat.mul_one, Nat.add_zero] at aa6); (try simp only [show ((Kd.slice 3 (Kd.int .i64))).sz = 1 from rfl, Nat.mul_one, Nat.add_zero] at hf34_0); clear hcl34 hcc34 hfr34 hM34; replace m9 := eq_true m9; replace na := eq_true na; have HX37 := Aside0.mk (show Kd.N (Kd.slice 3 (Kd.int .i64)) 22 dx w.heap.size (fun k_ => (w.heap.size ≤ k_) ∧ k_ ≠ al) (.slice (some ⟨ar, 0, none⟩) ai.length bi) m3 from (uf4_ ah)); obtain ⟨ce37, hcl37, hM37, hcc37, hfr37⟩ := Kd.N_elem HX37.out [] ((ji28) : Int) (of_decide_eq_true (g0_)) (by have h_ : ((ji28) : Int) < ((ai.length : Int) : Int) := of_decide_eq_true (g0_); first | exact h_ | (have e_ := (Kd.N_reads' ah.out).1; omega) | simpa using h_); obtain ⟨ua37_0, uc37_0, rfl, ul37_0, ge37_0⟩ := Kd.FK_slice_open hM37; have HP37 := Kd.N_seg HX37.out ((ji28) : Int) (of_decide_eq_true (g0_)) (by have h_ : ((ji28) : Int) < ((ai.length : Int) : Int) := of_decide_eq_true (g0_); first | exact h_ | (have e_ := (Kd.N_reads' ah.out).1; omega) | simpa using h_) (seg := [.slice oc (rd_L1 ai aw).length od]) (j := 0) hcl37 hcc37 (show 1 ≤ 1 from by decide) (x' := rd_L1 ai aw) (Kd.FK_slice_mk (Kd.V_reads' (Kd.V_mono (ok' := (fun k_ => ((fun k_ => (w.heap.size ≤ k_) ∧ k_ ≠ al)) k_ ∧ k_ ≠ ar)) (de.out) (fun k_ hk => ⟨⟨hk.1.1, hk.1.2⟩, fun e_ => (hk.2) (g6_)⟩))).2.1 (Kd.V_F (Kd.V_mono (ok' := (fun k_ => ((fun k_ => (w.heap.size ≤ k_) ∧ k_ ≠ al)) k_ ∧ k_ ≠ ar)) (de.out) (fun k_ hk => ⟨⟨hk.1.1, hk.1.2⟩, fun e_ => (hk.2) (g6_)⟩)))) (fun _ hk => hk); have nc := hcc37 0 _ rfl; (try simp only [show ((Kd.slice 3 (Kd.int .i64))).sz = 1 from rfl, Nat.mul_one, Nat.add_zero] at nc); have hf37_0 := hfr37 0; (try simp only [show ((Kd.slice 3 (Kd.int .i64))).sz = 1 from rfl, Nat.mul_one, Nat.add_zero] at hf37_0); clear hcl37 hcc37 hfr37 hM37; (try simp only [show ((Kd.slice 3 (Kd.int .i64))).sz = 1 from rfl, Nat.mul_one, Nat.add_zero] at HP37); (try simp only [show ((Kd.slice 3 (Kd.int .i64))).sz = 1 from rfl, Nat.mul_one, Nat.add_zero] at HP37)) | ((with_reducible refine gate_store (t := 22) (p := 65) rfl ?_); (try (rw [drewN_self dx]; generalize hq_ : World.drewN dx _ = dx; replace ah := Aside0.mk (Kd.N_at hq_ ah.out); replace fe := Aside0.mk (spec_CirclesOf.V_atq hq_ fe.out); replace ff := Aside0.mk (spec_CirclesOf.V_atq hq_ ff.out); replace de := Aside0.mk (spec_CirclesOf.V_atq hq_ de.out); replace df := Aside0.mk (spec_CirclesOf.V_atq hq_ df.out); replace av := Aside0.mk (blk_at hq_ av.out); replace HB := Aside0.mk (below_at hq_ HB.out); clear hq_; (try (have HX37 := Aside0.mk (show Kd.N (Kd.slice 3 (Kd.int .i64)) 22 dx w.heap.size (fun k_ => (w.heap.size ≤ k_) ∧ k_ ≠ al) (.slice (some ⟨ar, 0, none⟩) ai.length bi) m3 from (uf4_ ah)))); (try (obtain ⟨ce37, hcl37, hM37, hcc37, hfr37⟩ := Kd.N_elem HX37.out [] ((ji28) : Int) (of_decide_eq_true (g0_)) (by have h_ : ((ji28) : Int) < ((ai.length : Int) : Int) := of_decide_eq_true (g0_); first | exact h_ | (have e_ := (Kd.N_reads' ah.out).1; omega) | simpa using h_))); (try (obtain ⟨ua37_0, uc37_0, rfl, ul37_0, ge37_0⟩ := Kd.FK_slice_open hM37)); (try (have HP37 := Kd.N_seg HX37.out ((ji28) : Int) (of_decide_eq_true (g0_)) (by have h_ : ((ji28) : Int) < ((ai.length : Int) : Int) := of_decide_eq_true (g0_); first | exact h_ | (have e_ := (Kd.N_reads' ah.out).1; omega) | simpa using h_) (seg := [.slice oc (rd_L1 ai aw).length od]) (j := 0) hcl37 hcc37 (show 1 ≤ 1 from by decide) (x' := rd_L1 ai aw) (Kd.FK_slice_mk (Kd.V_reads' (Kd.V_mono (ok' := (fun k_ => ((fun k_ => (w.heap.size ≤ k_) ∧ k_ ≠ al)) k_ ∧ k_ ≠ ar)) (de.out) (fun k_ hk => ⟨⟨hk.1.1, hk.1.2⟩, fun e_ => (hk.2) (g6_)⟩))).2.1 (Kd.V_F (Kd.V_mono (ok' := (fun k_ => ((fun k_ => (w.heap.size ≤ k_) ∧ k_ ≠ al)) k_ ∧ k_ ≠ ar)) (de.out) (fun k_ hk => ⟨⟨hk.1.1, hk.1.2⟩, fun e_ => (hk.2) (g6_)⟩)))) (fun _ hk => hk))); (try (have nc := hcc37 0 _ rfl)); (try (try simp only [show ((Kd.slice 3 (Kd.int .i64))).sz = 1 from rfl, Nat.mul_one, Nat.add_zero] at nc)); (try (have hf37_0 := hfr37 0)); (try (try simp only [show ((Kd.slice 3 (Kd.int .i64))).sz = 1 from rfl, Nat.mul_one, Nat.add_zero] at hf37_0)); (try (clear hcl37 hcc37 hfr37 hM37)); (try (try simp only [show ((Kd.slice 3 (Kd.int .i64))).sz = 1 from rfl, Nat.mul_one, Nat.add_zero] at HP37)); (try (try simp only [show ((Kd.slice 3 (Kd.int .i64))).sz = 1 from rfl, Nat.mul_one, Nat.add_zero] at HP37)))); refine store_event (t := 22) (p := 65) (v := ?vo_w38) (w1 := (dx.setCell ⟨ar, ((ji28) : Int).toNat, none⟩ (.slice oc (rd_L1 ai aw).length od))) ?hg ?ho ?hn ?hr ?_; (case ho => rfl); (case hg => rfl); (case hn => rfl); (case hr => first | (go_simp; done) | (go_simp; rfl)); intro nf hw; have hg : dx.grownBy nf (some ar) := (by rw [hw]; exact HP37.2); have hp_ : Kd.N (Kd.slice 3 (Kd.int .i64)) 22 nf w.heap.size (fun k_ => (w.heap.size ≤ k_) ∧ k_ ≠ al) (.slice (some ⟨ar, 0, none⟩) ai.length bi) zy := (by rw [hw, bd8.out]; exact HP37.1); clear HP37; replace av := Aside0.mk (blk_grown (g := al) (o := .cells #[.slice ae ab.length ac, .slice ag aa.length af] 25 (0, 0)) (uf0_ av) hg (Kd.N_ne ah.out av.out (by decide))); replace ah := Aside0.mk (hp_); replace fe := Aside0.mk (Kd.V_afterv (v := (.slice (some ⟨ar, 0, none⟩) ai.length bi)) (v1 := (.slice (some ⟨ar, 0, none⟩) ai.length bi)) (ok := (fun k_ => (w.heap.size ≤ k_) ∧ k_ ≠ al)) (uf5_ fe) hg (.inl rfl)); replace ff := Aside0.mk (Kd.V_afterv (v := (.slice (some ⟨ar, 0, none⟩) ai.length bi)) (v1 := (.slice (some ⟨ar, 0, none⟩) ai.length bi)) (ok := (fun k_ => (w.heap.size ≤ k_) ∧ k_ ≠ al)) (uf5_ ff) hg (.inl rfl)); replace de := Aside0.mk (Kd.V_afterv (v := (.slice (some ⟨ar, 0, none⟩) ai.length bi)) (v1 := (.slice (some ⟨ar, 0, none⟩) ai.length bi)) (ok := (fun k_ => (w.heap.size ≤ k_) ∧ k_ ≠ al)) (uf5_ de) hg (.inl rfl)); replace df := Aside0.mk (Kd.V_afterv (v := (.slice (some ⟨ar, 0, none⟩) ai.length bi)) (v1 := (.slice (some ⟨ar, 0, none⟩) ai.length bi)) (ok := (fun k_ => (w.heap.size ≤ k_) ∧ k_ ≠ al)) (uf5_ df) hg (.inl rfl)); replace HB := Aside0.mk ((g22_ : Below w.heap.size w nf)); clear hg hw hp_)); try go_wp2_with (first | (go_at_call 114; (with_reducible refine (spec_l3Before.calls k3 _ _ (rd_L1 ai aw) _ _ (rd_L1 ai (ji28)) true _ ?side1 ?side2 ?side3 ?side4 vw.out).mono ?_); (case side1 => repeat (first | exact (g20_) | (with_reducible refine Kd.C_alloc ?_ _) | (with_reducible refine Kd.C_drewN ?_ _) | (with_reducible refine Kd.C_drew ?_))); (case side2 => exact ty.out); (case side3 => repeat (first | exact (g21_) | (with_reducible refine Kd.C_alloc ?_ _) | (with_reducible refine Kd.C_drewN ?_ _) | (with_reducible refine Kd.C_drew ?_))); (case side4 => exact tz.out); rintro e w' ⟨rfl, ⟨nd, rfl⟩⟩; (try first | exact ⟨rfl, _, World.drewN_drewN _ _ _⟩ | exact ⟨rfl, _, Eq.trans (World.drewN_drewN _ _ _) (congrArg (World.drewN _) (Nat.add_assoc _ _ _))⟩); have ka : 0 ≤ (aw : Int) := of_decide_eq_true (g0_); have lz : aw < (ai.length : Int) := of_decide_eq_true (g0_); obtain ⟨aa1, bz4, bz5, aa2, m4, rg, rh⟩ := at_L1 (Kd.N_reads' ah.out).2.2 aw ka lz; obtain rfl : pt = aa1 := (by injection aa2); obtain ⟨ce304, hce304, hMe304, hcc304⟩ := Kd.N_get ah.out [] aw ka (g55_); obtain ⟨ua304_0, uc304_0, rfl, ul304_0, ge304_0⟩ := Kd.FK_slice_open hMe304; have hv304_0 := hcc304 0 _ rfl; rw [Nat.add_zero, show ((Kd.slice 3 (Kd.int .i64))).sz = 1 from rfl, Nat.mul_one] at hv304_0; replace hv304_0 := Option.some.inj (hv304_0.symm.trans m4); injection hv304_0 with hva_ hvn_ hvc_; rw [hva_] at ge304_0; rw [hvc_] at ul304_0; have de := Aside0.mk (show Kd.V (Kd.int .i64) 3 _ w.heap.size _ _ (rd_L1 ai aw) from Kd.V_mk ul304_0 ge304_0); clear hva_ hvn_ hvc_ ge304_0 ul304_0; clear hcc304 hce304; have bz6 := Aside0.mk rh; have bz7 := Aside0.mk rg; clear rh rg; replace ka := eq_true ka; replace lz := eq_true lz; have ea_ := Option.some.inj (pu.symm.trans m4); injection ea_ with ea_ en_ ec_; subst ea_; subst ec_; clear en_; have kb : 0 ≤ ((ji28) : Int) := of_decide_eq_true (g0_); have l3 : (ji28) < (ai.length : Int) := of_decide_eq_true (g0_); obtain ⟨aa3, bz8, bz9, aa4, m5, ri, rj⟩ := at_L1 (Kd.N_reads' ah.out).2.2 (ji28) kb l3; obtain rfl : pt = aa3 := (by injection aa4); obtain ⟨ce305, hce305, hMe305, hcc305⟩ := Kd.N_get ah.out [] (ji28) kb (g56_); obtain ⟨ua305_0, uc305_0, rfl, ul305_0, ge305_0⟩ := Kd.FK_slice_open hMe305; have hv305_0 := hcc305 0 _ rfl; rw [Nat.add_zero, show ((Kd.slice 3 (Kd.int .i64))).sz = 1 from rfl, Nat.mul_one] at hv305_0; replace hv305_0 := Option.some.inj (hv305_0.symm.trans m5); injection hv305_0 with hva_ hvn_ hvc_; rw [hva_] at ge305_0; rw [hvc_] at ul305_0; have df := Aside0.mk (show Kd.V (Kd.int .i64) 3 _ w.heap.size _ _ (rd_L1 ai (ji28)) from Kd.V_mk ul305_0 ge305_0); clear hva_ hvn_ hvc_ ge305_0 ul305_0; clear hcc305 hce305; have ca0 := Aside0.mk rj; have ca1 := Aside0.mk ri; clear rj ri; replace kb := eq_true kb; replace l3 := eq_true l3; have ea_ := Option.some.inj (px.symm.trans m5); injection ea_ with ea_ en_ ec_; subst ea_; subst ec_; clear en_; have m6 : 0 ≤ (aw : Int) := of_decide_eq_true (g0_); have m7 : (aw : Int) < ((ai.length : Int) : Int) := of_decide_eq_true (g0_); obtain ⟨ar, ca2, rk, rl, gl33, cl33, HG33⟩ := Kd.N_form ah.out (by omega); (first | cases rk | (injection rk with ea_ en_ ec_; (first | subst ea_ | (injection ea_ with ea_; subst ea_)); subst ec_; clear en_)); have GB33 := Aside0.mk rl; have GG33 := Aside0.mk HG33; clear rl gl33 HG33; (first | simp only [add_plain] at pu | skip); (first | simp only [add_plain] at px | skip); (first | simp only [add_plain] at m4 | skip); (first | simp only [add_plain] at m5 | skip); obtain ⟨ce33, hcl33, hM33, hcc33, hfr33⟩ := Kd.N_elem ah.out [] (aw : Int) m6 m7; obtain ⟨ua33_0, uc33_0, rfl, ul33_0, ge33_0⟩ := Kd.FK_slice_open hM33; have aa5 := hcc33 0 _ rfl; have hf33_0 := hfr33 0; (try simp only [show ((Kd.slice 3 (Kd.int .i64))).sz = 1 from rfl, Nat.mul_one, Nat.add_zero] at aa5); (try simp only [show ((Kd.slice 3 (Kd.int .i64))).sz = 1 from rfl, Nat.mul_one, Nat.add_zero] at hf33_0); clear hcl33 hcc33 hfr33 hM33; replace m6 := eq_true m6; replace m7 := eq_true m7; have HX35 := Aside0.mk (show Kd.N (Kd.slice 3 (Kd.int .i64)) 22 wr w.heap.size (fun k_ => (w.heap.size ≤ k_) ∧ k_ ≠ al) (.slice (some ⟨ar, 0, none⟩) ai.length bi) ai from (uf4_ ah)); obtain ⟨ce35, hcl35, hM35, hcc35, hfr35⟩ := Kd.N_elem HX35.out [] (aw : Int) (of_decide_eq_true (g0_)) (by have h_ : (aw : Int) < ((ai.length : Int) : Int) := of_decide_eq_true (g0_); first | exact h_ | (have e_ := (Kd.N_reads' ah.out).1; omega) | simpa using h_); obtain ⟨ua35_0, uc35_0, rfl, ul35_0, ge35_0⟩ := Kd.FK_slice_open hM35; have HP35 := Kd.N_seg HX35.out (aw : Int) (of_decide_eq_true (g0_)) (by have h_ : (aw : Int) < ((ai.length : Int) : Int) := of_decide_eq_true (g0_); first | exact h_ | (have e_ := (Kd.N_reads' ah.out).1; omega) | simpa using h_) (seg := [.slice oe (rd_L1 ai (ji28)).length og]) (j := 0) hcl35 hcc35 (show 1 ≤ 1 from by decide) (x' := rd_L1 ai (ji28)) (Kd.FK_slice_mk (Kd.V_reads' (Kd.V_mono (ok' := (fun k_ => ((fun k_ => (w.heap.size ≤ k_) ∧ k_ ≠ al)) k_ ∧ k_ ≠ ar)) (df.out) (fun k_ hk => ⟨⟨hk.1.1, hk.1.2⟩, fun e_ => (hk.2) (g6_)⟩))).2.1 (Kd.V_F (Kd.V_mono (ok' := (fun k_ => ((fun k_ => (w.heap.size ≤ k_) ∧ k_ ≠ al)) k_ ∧ k_ ≠ ar)) (df.out) (fun k_ hk => ⟨⟨hk.1.1, hk.1.2⟩, fun e_ => (hk.2) (g6_)⟩)))) (fun _ hk => hk); have m8 := hcc35 0 _ rfl; (try simp only [show ((Kd.slice 3 (Kd.int .i64))).sz = 1 from rfl, Nat.mul_one, Nat.add_zero] at m8); have hf35_0 := hfr35 0; (try simp only [show ((Kd.slice 3 (Kd.int .i64))).sz = 1 from rfl, Nat.mul_one, Nat.add_zero] at hf35_0); clear hcl35 hcc35 hfr35 hM35; (try simp only [show ((Kd.slice 3 (Kd.int .i64))).sz = 1 from rfl, Nat.mul_one, Nat.add_zero] at HP35); (try simp only [show ((Kd.slice 3 (Kd.int .i64))).sz = 1 from rfl, Nat.mul_one, Nat.add_zero] at HP35)) | ((with_reducible refine gate_store (t := 22) (p := 60) rfl ?_); (try (rw [drewN_self wr]; generalize hq_ : World.drewN wr _ = wr; replace ah := Aside0.mk (Kd.N_at hq_ ah.out); replace fe := Aside0.mk (spec_CirclesOf.V_atq hq_ fe.out); replace ff := Aside0.mk (spec_CirclesOf.V_atq hq_ ff.out); replace de := Aside0.mk (spec_CirclesOf.V_atq hq_ de.out); replace df := Aside0.mk (spec_CirclesOf.V_atq hq_ df.out); replace av := Aside0.mk (blk_at hq_ av.out); replace HB := Aside0.mk (below_at hq_ HB.out); clear hq_; (try (have HX35 := Aside0.mk (show Kd.N (Kd.slice 3 (Kd.int .i64)) 22 wr w.heap.size (fun k_ => (w.heap.size ≤ k_) ∧ k_ ≠ al) (.slice (some ⟨ar, 0, none⟩) ai.length bi) ai from (uf4_ ah)))); (try (obtain ⟨ce35, hcl35, hM35, hcc35, hfr35⟩ := Kd.N_elem HX35.out [] (aw : Int) (of_decide_eq_true (g0_)) (by have h_ : (aw : Int) < ((ai.length : Int) : Int) := of_decide_eq_true (g0_); first | exact h_ | (have e_ := (Kd.N_reads' ah.out).1; omega) | simpa using h_))); (try (obtain ⟨ua35_0, uc35_0, rfl, ul35_0, ge35_0⟩ := Kd.FK_slice_open hM35)); (try (have HP35 := Kd.N_seg HX35.out (aw : Int) (of_decide_eq_true (g0_)) (by have h_ : (aw : Int) < ((ai.length : Int) : Int) := of_decide_eq_true (g0_); first | exact h_ | (have e_ := (Kd.N_reads' ah.out).1; omega) | simpa using h_) (seg := [.slice oe (rd_L1 ai (ji28)).length og]) (j := 0) hcl35 hcc35 (show 1 ≤ 1 from by decide) (x' := rd_L1 ai (ji28)) (Kd.FK_slice_mk (Kd.V_reads' (Kd.V_mono (ok' := (fun k_ => ((fun k_ => (w.heap.size ≤ k_) ∧ k_ ≠ al)) k_ ∧ k_ ≠ ar)) (df.out) (fun k_ hk => ⟨⟨hk.1.1, hk.1.2⟩, fun e_ => (hk.2) (g6_)⟩))).2.1 (Kd.V_F (Kd.V_mono (ok' := (fun k_ => ((fun k_ => (w.heap.size ≤ k_) ∧ k_ ≠ al)) k_ ∧ k_ ≠ ar)) (df.out) (fun k_ hk => ⟨⟨hk.1.1, hk.1.2⟩, fun e_ => (hk.2) (g6_)⟩)))) (fun _ hk => hk))); (try (have m8 := hcc35 0 _ rfl)); (try (try simp only [show ((Kd.slice 3 (Kd.int .i64))).sz = 1 from rfl, Nat.mul_one, Nat.add_zero] at m8)); (try (have hf35_0 := hfr35 0)); (try (try simp only [show ((Kd.slice 3 (Kd.int .i64))).sz = 1 from rfl, Nat.mul_one, Nat.add_zero] at hf35_0)); (try (clear hcl35 hcc35 hfr35 hM35)); (try (try simp only [show ((Kd.slice 3 (Kd.int .i64))).sz = 1 from rfl, Nat.mul_one, Nat.add_zero] at HP35)); (try (try simp only [show ((Kd.slice 3 (Kd.int .i64))).sz = 1 from rfl, Nat.mul_one, Nat.add_zero] at HP35)))); refine store_event (t := 22) (p := 60) (v := ?vo_w36) (w1 := (wr.setCell ⟨ar, (aw : Int).toNat, none⟩ (.slice oe (rd_L1 ai (ji28)).length og))) ?hg ?ho ?hn ?hr ?_; (case ho => rfl); (case hg => rfl); (case hn => rfl); (case hr => first | (go_simp; done) | (go_simp; rfl)); intro dx hw; have hg : wr.grownBy dx (some ar) := (by rw [hw]; exact HP35.2); have hp_ : Kd.N (Kd.slice 3 (Kd.int .i64)) 22 dx w.heap.size (fun k_ => (w.heap.size ≤ k_) ∧ k_ ≠ al) (.slice (some ⟨ar, 0, none⟩) ai.length bi) m3 := (by rw [hw, bd7.out]; exact HP35.1); clear HP35; replace av := Aside0.mk (blk_grown (g := al) (o := .cells #[.slice ae ab.length ac, .slice ag aa.length af] 25 (0, 0)) (uf0_ av) hg (Kd.N_ne ah.out av.out (by decide))); replace ah := Aside0.mk (hp_); replace fe := Aside0.mk (Kd.V_afterv (v := (.slice (some ⟨ar, 0, none⟩) ai.length bi)) (v1 := (.slice (some ⟨ar, 0, none⟩) ai.length bi)) (ok := (fun k_ => (w.heap.size ≤ k_) ∧ k_ ≠ al)) (uf5_ fe) hg (.inl rfl)); replace ff := Aside0.mk (Kd.V_afterv (v := (.slice (some ⟨ar, 0, none⟩) ai.length bi)) (v1 := (.slice (some ⟨ar, 0, none⟩) ai.length bi)) (ok := (fun k_ => (w.heap.size ≤ k_) ∧ k_ ≠ al)) (uf5_ ff) hg (.inl rfl)); replace de := Aside0.mk (Kd.V_afterv (v := (.slice (some ⟨ar, 0, none⟩) ai.length bi)) (v1 := (.slice (some ⟨ar, 0, none⟩) ai.length bi)) (ok := (fun k_ => (w.heap.size ≤ k_) ∧ k_ ≠ al)) (uf5_ de) hg (.inl rfl)); replace df := Aside0.mk (Kd.V_afterv (v := (.slice (some ⟨ar, 0, none⟩) ai.length bi)) (v1 := (.slice (some ⟨ar, 0, none⟩) ai.length bi)) (ok := (fun k_ => (w.heap.size ≤ k_) ∧ k_ ≠ al)) (uf5_ df) hg (.inl rfl)); replace HB := Aside0.mk ((g22_ : Below w.heap.size w dx)); clear hg hw hp_; have m9 : 0 ≤ ((ji28) : Int) := of_decide_eq_true (g0_); have na : ((ji28) : Int) < ((ai.length : Int) : Int) := of_decide_eq_true (g0_); obtain ⟨ce34, hcl34, hM34, hcc34, hfr34⟩ := Kd.N_elem ah.out [] ((ji28) : Int) m9 na; obtain ⟨ua34_0, uc34_0, rfl, ul34_0, ge34_0⟩ := Kd.FK_slice_open hM34; have aa6 := hcc34 0 _ rfl; have hf34_0 := hfr34 0; (try simp only [show ((Kd.slice 3 (Kd.int .i64))).sz = 1 from rfl, Nat.mul_one, Nat.add_zero] at aa6); (try simp only [show ((Kd.slice 3 (Kd.int .i64))).sz = 1 from rfl, Nat.mul_one, Nat.add_zero] at hf34_0); clear hcl34 hcc34 hfr34 hM34; replace m9 := eq_true m9; replace na := eq_true na; have HX37 := Aside0.mk (show Kd.N (Kd.slice 3 (Kd.int .i64)) 22 dx w.heap.size (fun k_ => (w.heap.size ≤ k_) ∧ k_ ≠ al) (.slice (some ⟨ar, 0, none⟩) ai.length bi) m3 from (uf4_ ah)); obtain ⟨ce37, hcl37, hM37, hcc37, hfr37⟩ := Kd.N_elem HX37.out [] ((ji28) : Int) (of_decide_eq_true (g0_)) (by have h_ : ((ji28) : Int) < ((ai.length : Int) : Int) := of_decide_eq_true (g0_); first | exact h_ | (have e_ := (Kd.N_reads' ah.out).1; omega) | simpa using h_); obtain ⟨ua37_0, uc37_0, rfl, ul37_0, ge37_0⟩ := Kd.FK_slice_open hM37; have HP37 := Kd.N_seg HX37.out ((ji28) : Int) (of_decide_eq_true (g0_)) (by have h_ : ((ji28) : Int) < ((ai.length : Int) : Int) := of_decide_eq_true (g0_); first | exact h_ | (have e_ := (Kd.N_reads' ah.out).1; omega) | simpa using h_) (seg := [.slice oc (rd_L1 ai aw).length od]) (j := 0) hcl37 hcc37 (show 1 ≤ 1 from by decide) (x' := rd_L1 ai aw) (Kd.FK_slice_mk (Kd.V_reads' (Kd.V_mono (ok' := (fun k_ => ((fun k_ => (w.heap.size ≤ k_) ∧ k_ ≠ al)) k_ ∧ k_ ≠ ar)) (de.out) (fun k_ hk => ⟨⟨hk.1.1, hk.1.2⟩, fun e_ => (hk.2) (g6_)⟩))).2.1 (Kd.V_F (Kd.V_mono (ok' := (fun k_ => ((fun k_ => (w.heap.size ≤ k_) ∧ k_ ≠ al)) k_ ∧ k_ ≠ ar)) (de.out) (fun k_ hk => ⟨⟨hk.1.1, hk.1.2⟩, fun e_ => (hk.2) (g6_)⟩)))) (fun _ hk => hk); have nc := hcc37 0 _ rfl; (try simp only [show ((Kd.slice 3 (Kd.int .i64))).sz = 1 from rfl, Nat.mul_one, Nat.add_zero] at nc); have hf37_0 := hfr37 0; (try simp only [show ((Kd.slice 3 (Kd.int .i64))).sz = 1 from rfl, Nat.mul_one, Nat.add_zero] at hf37_0); clear hcl37 hcc37 hfr37 hM37; (try simp only [show ((Kd.slice 3 (Kd.int .i64))).sz = 1 from rfl, Nat.mul_one, Nat.add_zero] at HP37); (try simp only [show ((Kd.slice 3 (Kd.int .i64))).sz = 1 from rfl, Nat.mul_one, Nat.add_zero] at HP37)) | ((with_reducible refine gate_store (t := 22) (p := 65) rfl ?_); (try (rw [drewN_self dx]; generalize hq_ : World.drewN dx _ = dx; replace ah := Aside0.mk (Kd.N_at hq_ ah.out); replace fe := Aside0.mk (spec_CirclesOf.V_atq hq_ fe.out); replace ff := Aside0.mk (spec_CirclesOf.V_atq hq_ ff.out); replace de := Aside0.mk (spec_CirclesOf.V_atq hq_ de.out); replace df := Aside0.mk (spec_CirclesOf.V_atq hq_ df.out); replace av := Aside0.mk (blk_at hq_ av.out); replace HB := Aside0.mk (below_at hq_ HB.out); clear hq_; (try (have HX37 := Aside0.mk (show Kd.N (Kd.slice 3 (Kd.int .i64)) 22 dx w.heap.size (fun k_ => (w.heap.size ≤ k_) ∧ k_ ≠ al) (.slice (some ⟨ar, 0, none⟩) ai.length bi) m3 from (uf4_ ah)))); (try (obtain ⟨ce37, hcl37, hM37, hcc37, hfr37⟩ := Kd.N_elem HX37.out [] ((ji28) : Int) (of_decide_eq_true (g0_)) (by have h_ : ((ji28) : Int) < ((ai.length : Int) : Int) := of_decide_eq_true (g0_); first | exact h_ | (have e_ := (Kd.N_reads' ah.out).1; omega) | simpa using h_))); (try (obtain ⟨ua37_0, uc37_0, rfl, ul37_0, ge37_0⟩ := Kd.FK_slice_open hM37)); (try (have HP37 := Kd.N_seg HX37.out ((ji28) : Int) (of_decide_eq_true (g0_)) (by have h_ : ((ji28) : Int) < ((ai.length : Int) : Int) := of_decide_eq_true (g0_); first | exact h_ | (have e_ := (Kd.N_reads' ah.out).1; omega) | simpa using h_) (seg := [.slice oc (rd_L1 ai aw).length od]) (j := 0) hcl37 hcc37 (show 1 ≤ 1 from by decide) (x' := rd_L1 ai aw) (Kd.FK_slice_mk (Kd.V_reads' (Kd.V_mono (ok' := (fun k_ => ((fun k_ => (w.heap.size ≤ k_) ∧ k_ ≠ al)) k_ ∧ k_ ≠ ar)) (de.out) (fun k_ hk => ⟨⟨hk.1.1, hk.1.2⟩, fun e_ => (hk.2) (g6_)⟩))).2.1 (Kd.V_F (Kd.V_mono (ok' := (fun k_ => ((fun k_ => (w.heap.size ≤ k_) ∧ k_ ≠ al)) k_ ∧ k_ ≠ ar)) (de.out) (fun k_ hk => ⟨⟨hk.1.1, hk.1.2⟩, fun e_ => (hk.2) (g6_)⟩)))) (fun _ hk => hk))); (try (have nc := hcc37 0 _ rfl)); (try (try simp only [show ((Kd.slice 3 (Kd.int .i64))).sz = 1 from rfl, Nat.mul_one, Nat.add_zero] at nc)); (try (have hf37_0 := hfr37 0)); (try (try simp only [show ((Kd.slice 3 (Kd.int .i64))).sz = 1 from rfl, Nat.mul_one, Nat.add_zero] at hf37_0)); (try (clear hcl37 hcc37 hfr37 hM37)); (try (try simp only [show ((Kd.slice 3 (Kd.int .i64))).sz = 1 from rfl, Nat.mul_one, Nat.add_zero] at HP37)); (try (try simp only [show ((Kd.slice 3 (Kd.int .i64))).sz = 1 from rfl, Nat.mul_one, Nat.add_zero] at HP37)))); refine store_event (t := 22) (p := 65) (v := ?vo_w38) (w1 := (dx.setCell ⟨ar, ((ji28) : Int).toNat, none⟩ (.slice oc (rd_L1 ai aw).length od))) ?hg ?ho ?hn ?hr ?_; (case ho => rfl); (case hg => rfl); (case hn => rfl); (case hr => first | (go_simp; done) | (go_simp; rfl)); intro nf hw; have hg : dx.grownBy nf (some ar) := (by rw [hw]; exact HP37.2); have hp_ : Kd.N (Kd.slice 3 (Kd.int .i64)) 22 nf w.heap.size (fun k_ => (w.heap.size ≤ k_) ∧ k_ ≠ al) (.slice (some ⟨ar, 0, none⟩) ai.length bi) zy := (by rw [hw, bd8.out]; exact HP37.1); clear HP37; replace av := Aside0.mk (blk_grown (g := al) (o := .cells #[.slice ae ab.length ac, .slice ag aa.length af] 25 (0, 0)) (uf0_ av) hg (Kd.N_ne ah.out av.out (by decide))); replace ah := Aside0.mk (hp_); replace fe := Aside0.mk (Kd.V_afterv (v := (.slice (some ⟨ar, 0, none⟩) ai.length bi)) (v1 := (.slice (some ⟨ar, 0, none⟩) ai.length bi)) (ok := (fun k_ => (w.heap.size ≤ k_) ∧ k_ ≠ al)) (uf5_ fe) hg (.inl rfl)); replace ff := Aside0.mk (Kd.V_afterv (v := (.slice (some ⟨ar, 0, none⟩) ai.length bi)) (v1 := (.slice (some ⟨ar, 0, none⟩) ai.length bi)) (ok := (fun k_ => (w.heap.size ≤ k_) ∧ k_ ≠ al)) (uf5_ ff) hg (.inl rfl)); replace de := Aside0.mk (Kd.V_afterv (v := (.slice (some ⟨ar, 0, none⟩) ai.length bi)) (v1 := (.slice (some ⟨ar, 0, none⟩) ai.length bi)) (ok := (fun k_ => (w.heap.size ≤ k_) ∧ k_ ≠ al)) (uf5_ de) hg (.inl rfl)); replace df := Aside0.mk (Kd.V_afterv (v := (.slice (some ⟨ar, 0, none⟩) ai.length bi)) (v1 := (.slice (some ⟨ar, 0, none⟩) ai.length bi)) (ok := (fun k_ => (w.heap.size ≤ k_) ∧ k_ ≠ al)) (uf5_ df) hg (.inl rfl)); replace HB := Aside0.mk ((g22_ : Below w.heap.size w nf)); clear hg hw hp_)))
          (try simp only [← rf])
          go_roundg k3
          case measure => have := HJ1.out; have := HK2.out; have := HK3.out; omega
          case rel => exact ⟨(zy), (ji28), (by first | rfl | (simp; done) | (simp only [← hji28] <;> (first | rfl | simp)) | (simp [*]; done)), H', ⟨g57_⟩, ⟨g58_⟩, ⟨g59_⟩, ⟨bz⟩⟩
         ·replace j9 := Bool.eq_false_iff.mpr j9
          subst j9
          replace H := ifn_ H
          have H' := Aside0.mk H
          clear H
          have pr : 0 ≤ (aw : Int) := of_decide_eq_true (g0_)
          have ps : aw < (ai.length : Int) := of_decide_eq_true (g0_)
          obtain ⟨pt, oc, od, bd9, pu, zz, z8⟩ := at_L1 (Kd.N_reads' ah.out).2.2 aw pr ps
          cases bd9
          obtain ⟨ce301, hce301, hMe301, hcc301⟩ := Kd.N_get ah.out [] aw pr (by first | exact ps | exact of_decide_eq_true (g0_) | (have e_ := (Kd.N_reads' ah.out).1; omega))
          obtain ⟨ua301_0, uc301_0, rfl, ul301_0, ge301_0⟩ := Kd.FK_slice_open hMe301
          have hv301_0 := hcc301 0 _ rfl
          rw [Nat.add_zero, show ((Kd.slice 3 (Kd.int .i64))).sz = 1 from rfl, Nat.mul_one] at hv301_0
          replace hv301_0 := Option.some.inj (hv301_0.symm.trans pu)
          injection hv301_0 with hva_ hvn_ hvc_
          rw [hva_] at ge301_0
          rw [hvc_] at ul301_0
          have fe := Aside0.mk (show Kd.V (Kd.int .i64) 3 _ w.heap.size _ _ (rd_L1 ai aw) from Kd.V_mk ul301_0 ge301_0)
          clear hva_ hvn_ hvc_ ge301_0 ul301_0
          clear hcc301 hce301
          have be0 := Aside0.mk z8
          have ty := Aside0.mk zz
          clear z8 zz
          replace pr := eq_true pr
          replace ps := eq_true ps
          have pv : 0 ≤ ((ji28) : Int) := of_decide_eq_true (g0_)
          have pw : (ji28) < (ai.length : Int) := of_decide_eq_true (g0_)
          obtain ⟨be1, oe, og, be2, px, z9, aa0⟩ := at_L1 (Kd.N_reads' ah.out).2.2 (ji28) pv pw
          obtain rfl : pt = be1 := (by injection be2)
          obtain ⟨ce302, hce302, hMe302, hcc302⟩ := Kd.N_get ah.out [] (ji28) pv (by first | exact pw | exact of_decide_eq_true (g0_) | (have e_ := (Kd.N_reads' ah.out).1; omega))
          obtain ⟨ua302_0, uc302_0, rfl, ul302_0, ge302_0⟩ := Kd.FK_slice_open hMe302
          have hv302_0 := hcc302 0 _ rfl
          rw [Nat.add_zero, show ((Kd.slice 3 (Kd.int .i64))).sz = 1 from rfl, Nat.mul_one] at hv302_0
          replace hv302_0 := Option.some.inj (hv302_0.symm.trans px)
          injection hv302_0 with hva_ hvn_ hvc_
          rw [hva_] at ge302_0
          rw [hvc_] at ul302_0
          have ff := Aside0.mk (show Kd.V (Kd.int .i64) 3 _ w.heap.size _ _ (rd_L1 ai (ji28)) from Kd.V_mk ul302_0 ge302_0)
          clear hva_ hvn_ hvc_ ge302_0 ul302_0
          clear hcc302 hce302
          have be3 := Aside0.mk aa0
          have tz := Aside0.mk z9
          clear aa0 z9
          replace pv := eq_true pv
          replace pw := eq_true pw
          go_wp2_with (first | (go_at_call 114; (with_reducible refine (spec_l3Before.calls k3 _ _ (rd_L1 ai aw) _ _ (rd_L1 ai (ji28)) false _ ?side1 ?side2 ?side3 ?side4 vw.out).mono ?_); (case side1 => repeat (first | exact (g20_) | (with_reducible refine Kd.C_alloc ?_ _) | (with_reducible refine Kd.C_drewN ?_ _) | (with_reducible refine Kd.C_drew ?_))); (case side2 => exact ty.out); (case side3 => repeat (first | exact (g21_) | (with_reducible refine Kd.C_alloc ?_ _) | (with_reducible refine Kd.C_drewN ?_ _) | (with_reducible refine Kd.C_drew ?_))); (case side4 => exact tz.out); rintro e w' ⟨rfl, ⟨nd, rfl⟩⟩; (try first | exact ⟨rfl, _, World.drewN_drewN _ _ _⟩ | exact ⟨rfl, _, Eq.trans (World.drewN_drewN _ _ _) (congrArg (World.drewN _) (Nat.add_assoc _ _ _))⟩)))
          repeat (go_quiet (first | (go_at_call 114; (with_reducible refine (spec_l3Before.calls k3 _ _ (rd_L1 ai aw) _ _ (rd_L1 ai (ji28)) false _ ?side1 ?side2 ?side3 ?side4 vw.out).mono ?_); (case side1 => repeat (first | exact (g20_) | (with_reducible refine Kd.C_alloc ?_ _) | (with_reducible refine Kd.C_drewN ?_ _) | (with_reducible refine Kd.C_drew ?_))); (case side2 => exact ty.out); (case side3 => repeat (first | exact (g21_) | (with_reducible refine Kd.C_alloc ?_ _) | (with_reducible refine Kd.C_drewN ?_ _) | (with_reducible refine Kd.C_drew ?_))); (case side4 => exact tz.out); rintro e w' ⟨rfl, ⟨nd, rfl⟩⟩; (try first | exact ⟨rfl, _, World.drewN_drewN _ _ _⟩ | exact ⟨rfl, _, Eq.trans (World.drewN_drewN _ _ _) (congrArg (World.drewN _) (Nat.add_assoc _ _ _))⟩))); try go_wp2_with (first | (go_at_call 114; (with_reducible refine (spec_l3Before.calls k3 _ _ (rd_L1 ai aw) _ _ (rd_L1 ai (ji28)) false _ ?side1 ?side2 ?side3 ?side4 vw.out).mono ?_); (case side1 => repeat (first | exact (g20_) | (with_reducible refine Kd.C_alloc ?_ _) | (with_reducible refine Kd.C_drewN ?_ _) | (with_reducible refine Kd.C_drew ?_))); (case side2 => exact ty.out); (case side3 => repeat (first | exact (g21_) | (with_reducible refine Kd.C_alloc ?_ _) | (with_reducible refine Kd.C_drewN ?_ _) | (with_reducible refine Kd.C_drew ?_))); (case side4 => exact tz.out); rintro e w' ⟨rfl, ⟨nd, rfl⟩⟩; (try first | exact ⟨rfl, _, World.drewN_drewN _ _ _⟩ | exact ⟨rfl, _, Eq.trans (World.drewN_drewN _ _ _) (congrArg (World.drewN _) (Nat.add_assoc _ _ _))⟩))))
          (try simp only [← rf])
          go_roundg k3
          case measure => have := HJ1.out; have := HK2.out; have := HK3.out; omega
          case rel => exact ⟨(ai), (wrap64 (lx + 1)), (g2_), H', ⟨g57_⟩, ⟨g58_⟩, ⟨g59_⟩, ⟨bz⟩⟩
        ·rw [if_neg gp] at H
         have uv := decide_eq_false gp
         clear gp
         have H' := Aside0.mk H
         clear H
         go_wp2
         repeat (go_quiet (fail); try go_wp2)
         (try simp only [← rf])
         go_roundg k3
         case measure => have := HJ1.out; have := HK2.out; have := HK3.out; omega
         case rel => exact ⟨(ai), (wrap64 (lx + 1)), (g2_), H', ⟨g57_⟩, ⟨g58_⟩, ⟨g59_⟩, ⟨bz⟩⟩
     ·rw [if_neg fa] at H
      have sy := decide_eq_false fa
      clear fa
      obtain rfl := Option.some.inj H
      obtain ⟨eg1, ca3, t1⟩ := Kd.N_slice ah.out
      subst t1
      go_wp2
      repeat (go_quiet (fail); try go_wp2)
      go_ret
      exact ⟨_, g4_, by (with_reducible repeat (first | apply Kd.N_alloc | apply Kd.N_drewN | apply Kd.N_drew)); exact Kd.N_mono ah.out (fun _ hk => hk.1), bz⟩
def spec_DrawStruckOut.f (k : Nat) (l0 : List Int) : Option (List Int × (List (List Int)) × Int) := (spec_l20Open.f l0).bind fun bt309 => ((spec_l20Book.f k bt309.1 bt309.2 12).bind fun bt312 => ((spec_CirclesOf.f k bt312.1 bt312.2.1).bind fun pz => ((spec_l20Rd_pick.f k bt309.1 bt312.2.2 (wrap64 ((pz.length : Int) + 1))).bind fun bt323 => ((spec_l20Rd_pick.f k bt309.1 bt323.2 20).bind fun bt325 => (some (bt312.1, bt312.2.1, wrap64 (bt323.1 - (wrap64 (Int.tdiv bt325.1 19)))))))))
theorem spec_DrawStruckOut.mq {p : Prop} (h : p := by
 repeat' first
 | (with_reducible exact spec_CirclesOf.mono _ _ _)
 | (with_reducible exact spec_l20Book.mono _ _ _ _)
 | (with_reducible exact spec_l20Rd_pick.mono _ _ _ _)
 | (with_reducible exact LeO.refl _)
 | (with_reducible exact LeO.none _)
 | (with_reducible refine LeO.ite ?_ ?_)
 | (with_reducible refine LeO.bind ?_ (fun _ => ?_))
 | exact spec_CirclesOf.mono _ _ _
 | exact spec_l20Book.mono _ _ _ _
 | exact spec_l20Rd_pick.mono _ _ _ _
 | exact LeO.none _
 | refine LeO.ite ?_ ?_
 | refine LeO.bind ?_ (fun _ => ?_)) : p := h
theorem spec_DrawStruckOut.mono : ∀ a0 k, LeO (spec_DrawStruckOut.f k a0) (spec_DrawStruckOut.f (k + 1) a0) := by
 intro a0 k
 unfold spec_DrawStruckOut.f
 exact spec_DrawStruckOut.mq
def spec_DrawStruckOut.T3 : Bool × List (List Nat × List Nat) := (true, [([], []), ([], []), ([], []), ([2], [2]), ([3], [3]), ([4], [4]), ([1, 5, 3], [1, 5]), ([], []), ([7, 6], [7]), ([8], [8]), ([6, 9], [6, 9]), ([0, 8, 0], [0]), ([10, 11, 0, 1, 2, 3, 4, 5, 6, 7, 8, 9, 10, 11], [10])])
def spec_DrawStruckOut.B3 : List Nat := [0, 0, 0, 4, 12, 28, 62, 0, 254, 510, 1022, 511, 4095]
theorem spec_DrawStruckOut.tab3 : rtab .any (opsOf Try.f47 3) = spec_DrawStruckOut.T3 := by kernel_rfl
theorem spec_DrawStruckOut.bits3 : waitsOk spec_DrawStruckOut.T3.2 spec_DrawStruckOut.B3 = true := by kernel_rfl
theorem i7 {p : Prop} (h : p := by repeat (first | (with_reducible first | exact HB.out | apply below_alloc | apply pw_below_drewN | apply below_drew1 | refine below_set ?_ da7.out | refine below_set ?_ (IsS112.ge HI311.out) | refine below_set ?_ da8.out) | exact HB.out)) : p := h
theorem l9 {p : Prop} (h : p := by repeat (first | (with_reducible first | exact HI311.out | apply IsS112.alloc | apply IsS112.drewN | apply IsS112.drew | apply IsS112.set_1 | refine IsS112.far ?_ da9.out _ | refine IsS112.far ?_ ca4.out _) | exact HI311.out)) : p := h
set_option maxHeartbeats 8000000 in
set_option maxRecDepth 100000 in
theorem spec_DrawStruckOut.calls (k : Nat) (A0 : Option Addr) (c0 : Nat) (l0 : List Int) (r1 : List Int) (r2 : List (List Int)) (r3 : Int) (w : World) (br : Kd.C (Kd.int .u8) w A0 l0.length l0) (cx : l0.length ≤ c0) (h : spec_DrawStruckOut.f k l0 = some (r1, r2, r3)) :
  Calls Try.prog 47 #[.slice A0 l0.length c0] w fun e w' => ∃ v0_ v1_ : Value, e = .returned (.tuple #[.agg #[v0_, v1_], .int .i64 r3]) ∧ Kd.R (Kd.int .i64) 3 w' w.heap.size (fun k_ => (w.heap.size ≤ k_)) v0_ r1 ∧ Kd.V (Kd.slice 3 (Kd.int .i64)) 22 w' w.heap.size (fun k_ => (w.heap.size ≤ k_) ∧ some k_ ≠ (v0_ : Value).ownBlock) v1_ r2 ∧ Below w.heap.size w w' := by
 have hu25 := Try.underlying25
 have dz := Aside0.mk br
 have kt := Aside0.mk cx
 clear br cx
 have HB := Aside0.mk (Below.refl w.heap.size w)
 have H : ((spec_l20Open.f l0).bind fun bt309 => ((spec_l20Book.f k bt309.1 bt309.2 12).bind fun bt312 => ((spec_CirclesOf.f k bt312.1 bt312.2.1).bind fun pz => ((spec_l20Rd_pick.f k bt309.1 bt312.2.2 (wrap64 ((pz.length : Int) + 1))).bind fun bt323 => ((spec_l20Rd_pick.f k bt309.1 bt323.2 20).bind fun bt325 => (some (bt312.1, bt312.2.1, wrap64 (bt323.1 - (wrap64 (Int.tdiv bt325.1 19)))))))))) = some (r1, r2, r3) := h
 clear h
 replace H := Option.bind_eq_some_iff.mp H
 obtain ⟨⟨p0, ca5⟩, A20, H⟩ := H
 try dsimp only at H
 have A2 := Aside0.mk A20
 clear A20
 replace H := Option.bind_eq_some_iff.mp H
 obtain ⟨⟨ek, gm, vx⟩, j3, H⟩ := H
 try dsimp only at H
 have A3 := Aside0.mk j3
 clear j3
 obtain ⟨pz, A4, H⟩ := bind_ H
 replace H := Option.bind_eq_some_iff.mp H
 obtain ⟨⟨db0, be4⟩, A50, H⟩ := H
 try dsimp only at H
 have A5 := Aside0.mk A50
 clear A50
 replace H := Option.bind_eq_some_iff.mp H
 obtain ⟨⟨db1, db2⟩, yk, H⟩ := H
 try dsimp only at H
 have A6 := Aside0.mk yk
 clear yk
 simp only [Option.some.injEq, Prod.mk.injEq] at H
 obtain ⟨rfl, rfl, rfl⟩ := H
 go_enter Try.func47, Try.ntmps47
 try go_wp2_with (first | ((with_reducible refine gate_dst (N := 2) rfl ?_); refine bx_ (N := 2) #[.slice none 0 0, .slice none 0 0] 25 ?_; intro et hg w7 hbox hb; have eb := Aside0.mk (hbox); have eg2 := Aside0.mk ((g36_ : w.heap.size ≤ et)); have da7 := Aside0.mk ((g36_ : w.heap.size ≤ et)); replace HB := Aside0.mk (below_step (i7) hb); clear hb hbox hg) | ((with_reducible refine gate_callee (f := 69) rfl ?_); refine goesL_ (some 7) rfl rfl Try.func69 k_ rfl #[.slice A0 l0.length c0] rfl (g3_) ?_; (with_reducible refine (spec_l20Open.calls _ _ l0 p0 ca5 w _ ?side1 ?side2 ?side3 A2.out).mono ?_); (case side1 => exact i7); (case side2 => exact dz.out); (case side3 => exact kt.out); rintro e w8 ⟨g311, rfl, hi, hb, hb2⟩; refine ⟨_, rfl, ?_⟩; replace HB := Aside0.mk (hb); have HI311 := Aside0.mk (hi); have da9 := Aside0.mk (IsS112.ne_blk hi (blk_below (g := et) (o := .cells #[.slice none 0 0, .slice none 0 0] 25 (0, 0)) (uf0_ eb) hb2) (by decide)); have be5 := Aside0.mk (Ne.symm (IsS112.ne_blk hi (blk_below (g := et) (o := .cells #[.slice none 0 0, .slice none 0 0] 25 (0, 0)) (uf0_ eb) hb2) (by decide))); replace eb := Aside0.mk (blk_below (g := et) (o := .cells #[.slice none 0 0, .slice none 0 0] 25 (0, 0)) (uf0_ eb) hb2); (try clear hb); (try clear hb2); (try clear hk); (try clear hi)) | ((with_reducible refine gate_callee (f := 91) rfl ?_); refine goesL_ (some 9) rfl rfl Try.func91 k_ rfl #[.pointer (some ⟨g311, 0, none⟩), .int .i64 12] rfl (g3_) ?_; (with_reducible refine (spec_l20Book.calls k g311 p0 ca5 12 ek gm vx w _ ?side1 ?side2 A3.out).mono ?_); (case side1 => exact l9); (case side2 => exact i7); rintro e w9 ⟨db3, eg3, rfl, aj, em, hi, hb, hk⟩; refine ⟨_, rfl, ?_⟩; have gu := Aside0.mk (Kd.R_lower (Kd.R_newM (M := fun k_ => (w.heap.size ≤ k_)) (Kd.R_mono (ok' := fun k_ => True) aj (fun _ hk_ => trivial)) (below_size (i7)) (fun k_ h_ => h_)) (below_size (i7))); have g5 := Aside0.mk (Kd.V_lower (Kd.V_mono (ok' := fun k_ => (w.heap.size ≤ k_) ∧ some k_ ≠ (db3 : Value).ownBlock ∧ k_ ≠ et ∧ k_ ≠ g311) em (fun k_ hk_ => ⟨(Nat.le_trans (below_size (i7)) hk_.1), hk_.2, (Kd.freshB (g := et) (o := .cells #[.slice none 0 0, .slice none 0 0] 25 (0, 0)) (uf0_ eb) k_ hk_.1), (IsS112.fresh (l9) k_ hk_.1)⟩)) (below_size (i7))); replace eb := kb_ hk eb be5; replace HB := Aside0.mk (hb); replace HI311 := Aside0.mk (hi); (try clear hb); (try clear hb2); (try clear hk); (try clear hi); (try clear aj); (try clear em)) | ((with_reducible refine gate_dst (N := 5) rfl ?_); refine bx_ (N := 5) #[.slice none 0 0, .slice none 0 0] 25 ?_; intro dl hg lg hbox hb; replace gu := Aside0.mk (Kd.R_below (uf1_ gu) hb); replace g5 := Aside0.mk (Kd.V_below (Kd.V_elderB (uf5_ g5) dl (Nat.le_of_eq hg.symm)) hb); have ft := Aside0.mk (hbox); have eg4 := Aside0.mk ((g36_ : w.heap.size ≤ dl)); have da8 := Aside0.mk ((g36_ : w.heap.size ≤ dl)); replace HB := Aside0.mk (below_step (i7) hb); have aa7 := Aside0.mk ((by rw [hg]; exact Nat.ne_of_lt (blk_lt (g := et) (o := .cells #[.slice none 0 0, .slice none 0 0] 25 (0, 0)) (uf0_ eb)) : et ≠ dl)); have t2 := Aside0.mk ((by rw [hg]; exact Nat.ne_of_gt (blk_lt (g := et) (o := .cells #[.slice none 0 0, .slice none 0 0] 25 (0, 0)) (uf0_ eb)) : dl ≠ et)); replace eb := bb_ eb hb; have ca4 := Aside0.mk ((by rw [hg]; exact Nat.ne_of_lt (IsS112.lt (show IsS112 w _ g311 p0 vx from l9)) : g311 ≠ dl)); have be6 := Aside0.mk ((by rw [hg]; exact Nat.ne_of_gt (IsS112.lt (show IsS112 w _ g311 p0 vx from l9)) : dl ≠ g311)); replace HI311 := Aside0.mk (IsS112.below (l9) hb); clear hb hbox hg; obtain ⟨b7, bv, yl⟩ := Kd.R_slice gu.out; subst yl; have am3 := t2.out; have am4 := aa7.out; have ah9 := be6.out; have ai0 := ca4.out; obtain ⟨u2, u4, u6, u7⟩ := blk2_ ft; obtain ⟨gz, f7, aw6⟩ := Kd.V_slice g5.out; subst aw6))
 have n0_ : Aside0 (Kd.R (Kd.int .i64) 3 ((lg.setCell ⟨dl, 0, none⟩ (.slice b7 ek.length bv)).setCell ⟨dl, 1, none⟩ (.slice gz gm.length f7)) w.heap.size (fun k_ => (w.heap.size ≤ k_)) (.slice b7 ek.length bv) ek) := ⟨by (with_reducible repeat (first | apply Kd.R_alloc | apply Kd.R_drewN | apply Kd.R_drew)); exact Kd.R_mono (Kd.R_far (p := ⟨dl, 1, none⟩) (Kd.R_far (p := ⟨dl, 0, none⟩) (Kd.R_types gu.out ft.out (by decide)) (fun _ hk => hk.2) (.slice b7 ek.length bv)) (fun _ hk => hk.2) (.slice gz gm.length f7)) (fun _ hk => hk.1.1)⟩
 have n1_ : Aside0 (Kd.V (Kd.slice 3 (Kd.int .i64)) 22 ((lg.setCell ⟨dl, 0, none⟩ (.slice b7 ek.length bv)).setCell ⟨dl, 1, none⟩ (.slice gz gm.length f7)) w.heap.size (fun k_ => (w.heap.size ≤ k_) ∧ some k_ ≠ (.slice b7 ek.length bv : Value).ownBlock ∧ k_ ≠ et ∧ k_ ≠ g311 ∧ k_ ≠ dl) (.slice gz gm.length f7) gm) := ⟨by (with_reducible repeat (first | apply Kd.V_alloc | apply Kd.V_drewN | apply Kd.V_drew)); exact Kd.V_mono (Kd.V_far (p := ⟨dl, 1, none⟩) (Kd.V_far (p := ⟨dl, 0, none⟩) (Kd.V_mono g5.out (fun k_ hk => (⟨hk, hk.2⟩ : _ ∧ k_ ≠ dl))) (fun _ hk => hk.2) (.slice b7 ek.length bv)) (fun _ hk => hk.2) (.slice gz gm.length f7)) (fun _ hk => ⟨hk.1.1.1, ⟨hk.1.1.2.1, ⟨hk.1.1.2.2.1, ⟨hk.1.1.2.2.2, hk.1.2⟩⟩⟩⟩)⟩
 have n2_ : Aside0 (((lg.setCell ⟨dl, 0, none⟩ (.slice b7 ek.length bv)).setCell ⟨dl, 1, none⟩ (.slice gz gm.length f7)).heap[et]? = some (.cells #[.slice none 0 0, .slice none 0 0] 25 (0, 0))) := ⟨by (with_reducible repeat (first | refine blk_drewN ?_ _ | refine blk_drew ?_ | refine blk_alloc ?_ _)); refine blk_far ?_ aa7.out _; refine blk_far ?_ aa7.out _; exact uf0_ eb⟩
 have n3_ : Aside0 (((lg.setCell ⟨dl, 0, none⟩ (.slice b7 ek.length bv)).setCell ⟨dl, 1, none⟩ (.slice gz gm.length f7)).heap[dl]? = some (.cells #[.slice b7 ek.length bv, .slice gz gm.length f7] 25 (0, 0))) := ⟨by (with_reducible repeat (first | refine blk_drewN ?_ _ | refine blk_drew ?_ | refine blk_alloc ?_ _)); refine blk_put (cs := #[.slice b7 ek.length bv, .slice none 0 0]) ?_ 1 _ rfl; refine blk_put (cs := #[.slice none 0 0, .slice none 0 0]) ?_ 0 _ rfl; exact uf0_ ft⟩
 have n4_ : Aside0 (IsS112 w ((lg.setCell ⟨dl, 0, none⟩ (.slice b7 ek.length bv)).setCell ⟨dl, 1, none⟩ (.slice gz gm.length f7)) g311 p0 vx) := ⟨l9⟩
 have n5_ : Aside0 (Below w.heap.size w ((lg.setCell ⟨dl, 0, none⟩ (.slice b7 ek.length bv)).setCell ⟨dl, 1, none⟩ (.slice gz gm.length f7))) := ⟨i7⟩
 (try clear gu)
 (try clear g5)
 (try clear eb)
 (try clear ft)
 (try clear HI311)
 (try clear HB)
 generalize ((lg.setCell ⟨dl, 0, none⟩ (.slice b7 ek.length bv)).setCell ⟨dl, 1, none⟩ (.slice gz gm.length f7)) = qm at n0_ n1_ n2_ n3_ n4_ n5_ ⊢
 have gu := n0_
 have g5 := n1_
 have eb := n2_
 have ft := n3_
 have HI311 := n4_
 have HB := n5_
 clear n0_ n1_ n2_ n3_ n4_ n5_
 replace gu := Aside0.mk (Kd.R_drew gu.out)
 replace g5 := Aside0.mk (Kd.V_drew g5.out)
 replace eb := Aside0.mk (blk_drew eb.out)
 replace ft := Aside0.mk (blk_drew ft.out)
 replace HI311 := Aside0.mk (IsS112.drew HI311.out)
 replace HB := Aside0.mk (below_drew1 HB.out)
 refine start_ (n := 13) (S := fun w' => w'.cell? ⟨dl, 0, none⟩ = some (.slice b7 ek.length bv) ∧ w'.cell? ⟨dl, 1, none⟩ = some (.slice gz gm.length f7)) (ds := []) (tl_ 13 0) (g1_) rfl (g1_) ⟨(blk_cell ft.out 0).trans rfl, (blk_cell ft.out 1).trans rfl⟩ (fun hHeld => ?_); refine with_tabW spec_DrawStruckOut.tab3 spec_DrawStruckOut.bits3 (fun HT_ HW_ => ?_)
 generalize qm.drew = pa at gu g5 eb ft HI311 HB hHeld ⊢
 refine pw_ 1 11 (tl_ 13 2) rfl rfl ?_
 refine pw_ 7 17 (tl_ 13 130) rfl rfl ?_
 refine tk0_ 0 10 (tl_ 13 131) rfl rfl hHeld ?_
 refine tk0_ 2 12 (tl_ 13 135) rfl rfl hHeld ?_
 refine one_ (i := 3) (N := some 13) (tl_ 13 143) rfl rfl (one_of HT_.out (g1_)) (by decide) (fun K hK => ?_)
 refine goes_ Try.func95 (g1_) rfl #[.agg #[.slice b7 ek.length bv, .slice gz gm.length f7]] (by rfl) rfl rfl (g3_) ?_
 with_reducible refine (spec_CirclesOf.calls k _ _ ek _ _ gm pz _ ?side1 ?side2 ?side3 ?side4 A4.out).mono ?_
 (case side1 => repeat (first | exact (Kd.R_reads' gu.out).2.2 | (with_reducible refine Kd.C_alloc ?_ _) | (with_reducible refine Kd.C_drewN ?_ _) | (with_reducible refine Kd.C_drew ?_)))
 (case side2 => exact (Kd.R_reads' gu.out).2.1)
 (case side3 => repeat (first | exact (Kd.V_reads' g5.out).2.2 | (with_reducible refine Kd.C_alloc ?_ _) | (with_reducible refine Kd.C_drewN ?_ _) | (with_reducible refine Kd.C_drew ?_)))
 (case side4 => exact (Kd.V_reads' g5.out).2.1)
 rintro e w18 ⟨eg5, rfl, aj, hb⟩
 refine ⟨_, rfl, ?_⟩
 replace g5 := Aside0.mk (Kd.V_elder' (uf5_ g5) (Kd.N_base aj) hb)
 have aa8 := Aside0.mk (Kd.N_lower (Kd.N_mono (ok' := fun k_ => (w.heap.size ≤ k_) ∧ some k_ ≠ (.slice b7 ek.length bv : Value).ownBlock ∧ k_ ≠ et ∧ k_ ≠ dl ∧ k_ ≠ g311) aj (fun k_ hk_ => ⟨(Nat.le_trans (below_size (i7)) hk_), (Kd.fresh' (Kd.R_lt (uf1_ gu)) k_ hk_), (Kd.freshB (g := et) (o := .cells #[.slice none 0 0, .slice none 0 0] 25 (0, 0)) (uf0_ eb) k_ hk_), (Kd.freshB (g := dl) (o := .cells #[.slice b7 ek.length bv, .slice gz gm.length f7] 25 (0, 0)) (uf0_ ft) k_ hk_), (IsS112.fresh (l9) k_ hk_)⟩)) (below_size (i7)))
 replace gu := Aside0.mk (Kd.R_below (uf1_ gu) hb)
 replace eb := bb_ eb hb
 replace ft := bb_ ft hb
 replace HB := Aside0.mk (below_step (i7) hb)
 replace HI311 := Aside0.mk (IsS112.below (l9) hb)
 (try clear hb)
 (try clear hb2)
 (try clear hk)
 (try clear hi)
 (try clear aj)
 obtain ⟨pp, pq, m0⟩ := Kd.N_slice aa8.out
 (first | subst m0 | (injection m0 with f1_ f2_ f3_; have f4_ := f1_.symm; have f5_ := f3_.symm; clear f1_ f2_ f3_; subst f4_; subst f5_))
 refine hK.out _ _ ⟨(blk_cell ft.out 0).trans rfl, (blk_cell ft.out 1).trans rfl⟩ (fun hHeld => ?_)
 clear hK K
 refine nm_ ?_
 refine pw_ 4 14 (tl_ 13 159) rfl rfl ?_
 refine pw_ 5 15 (tl_ 13 191) rfl rfl ?_
 refine one_ (i := 6) (N := some 16) (tl_ 13 255) rfl rfl (one_of HT_.out (g1_)) (by decide) (fun K hK => ?_)
 refine goes_ Try.func70 (g1_) rfl #[.pointer (some ⟨g311, 0, none⟩), .int .i64 (wrap64 ((pz.length : Int) + 1))] (by rfl) rfl rfl (g3_) ?_
 with_reducible refine (spec_l20Rd_pick.calls k g311 p0 vx (wrap64 ((pz.length : Int) + 1)) db0 be4 w _ ?side1 ?side2 A5.out).mono ?_
 (case side1 => exact l9)
 (case side2 => exact i7)
 rintro e sc ⟨rfl, hi, hb, hk⟩
 refine ⟨_, rfl, ?_⟩
 replace eb := kb_ hk eb be5
 replace gu := Aside0.mk (Kd.R_mono (Kd.R_keep (IsS112.apart (show IsS112 w _ g311 p0 vx from l9) (uf1_ gu) (by decide)) hk (fun _ h => h.2)) (fun _ h => h.1))
 replace g5 := Aside0.mk (Kd.V_mono (Kd.V_keep (Kd.V_mono (ok := fun k_ => ((((w.heap.size ≤ k_)) ∧ (some k_ ≠ (.slice b7 ek.length bv : Value).ownBlock ∧ (k_ ≠ et ∧ (k_ ≠ g311 ∧ k_ ≠ dl)))) ∧ some k_ ≠ (.slice pp pz.length pq : Value).ownBlock)) (uf5_ g5) (fun k_ hk_ => (⟨hk_, hk_.1.2.2.2.1⟩ : _ ∧ k_ ≠ g311))) hk (fun _ h => h.2)) (fun _ h => h.1))
 replace ft := kb_ hk ft be6
 replace aa8 := Aside0.mk (Kd.N_mono (Kd.N_keep (Kd.N_mono (ok := fun k_ => (((w.heap.size ≤ k_)) ∧ (some k_ ≠ (.slice b7 ek.length bv : Value).ownBlock ∧ (k_ ≠ et ∧ (k_ ≠ dl ∧ k_ ≠ g311))))) (uf4_ aa8) (fun k_ hk_ => (⟨hk_, hk_.2.2.2.2⟩ : _ ∧ k_ ≠ g311))) hk (fun _ h => h.2)) (fun _ h => h.1))
 replace HB := Aside0.mk (hb)
 replace HI311 := Aside0.mk (hi)
 (try clear hb)
 (try clear hb2)
 (try clear hk)
 (try clear hi)
 refine hK.out _ _ ⟨(blk_cell ft.out 0).trans rfl, (blk_cell ft.out 1).trans rfl⟩ (fun hHeld => ?_)
 clear hK K
 refine nm_ ?_
 refine one_ (i := 8) (N := some 18) (tl_ 13 511) rfl rfl (one_of HT_.out (g1_)) (by decide) (fun K hK => ?_)
 refine goes_ Try.func70 (g1_) rfl #[.pointer (some ⟨g311, 0, none⟩), .int .i64 20] (by rfl) rfl rfl (g3_) ?_
 with_reducible refine (spec_l20Rd_pick.calls k g311 p0 be4 20 db1 db2 w _ ?side1 ?side2 A6.out).mono ?_
 (case side1 => exact l9)
 (case side2 => exact i7)
 rintro e tx ⟨rfl, hi, hb, hk⟩
 refine ⟨_, rfl, ?_⟩
 replace eb := kb_ hk eb be5
 replace gu := Aside0.mk (Kd.R_mono (Kd.R_keep (IsS112.apart (show IsS112 w _ g311 p0 be4 from l9) (uf1_ gu) (by decide)) hk (fun _ h => h.2)) (fun _ h => h.1))
 replace g5 := Aside0.mk (Kd.V_mono (Kd.V_keep (Kd.V_mono (ok := fun k_ => ((((w.heap.size ≤ k_)) ∧ (some k_ ≠ (.slice b7 ek.length bv : Value).ownBlock ∧ (k_ ≠ et ∧ (k_ ≠ g311 ∧ k_ ≠ dl)))) ∧ some k_ ≠ (.slice pp pz.length pq : Value).ownBlock)) (uf5_ g5) (fun k_ hk_ => (⟨hk_, hk_.1.2.2.2.1⟩ : _ ∧ k_ ≠ g311))) hk (fun _ h => h.2)) (fun _ h => h.1))
 replace ft := kb_ hk ft be6
 replace aa8 := Aside0.mk (Kd.N_mono (Kd.N_keep (Kd.N_mono (ok := fun k_ => (((w.heap.size ≤ k_)) ∧ (some k_ ≠ (.slice b7 ek.length bv : Value).ownBlock ∧ (k_ ≠ et ∧ (k_ ≠ dl ∧ k_ ≠ g311))))) (uf4_ aa8) (fun k_ hk_ => (⟨hk_, hk_.2.2.2.2⟩ : _ ∧ k_ ≠ g311))) hk (fun _ h => h.2)) (fun _ h => h.1))
 replace HB := Aside0.mk (hb)
 replace HI311 := Aside0.mk (hi)
 (try clear hb)
 (try clear hb2)
 (try clear hk)
 (try clear hi)
 refine hK.out _ _ ⟨(blk_cell ft.out 0).trans rfl, (blk_cell ft.out 1).trans rfl⟩ (fun hHeld => ?_)
 clear hK K
 refine nm_ ?_
 refine pw_ 9 19 (tl_ 13 1023) rfl rfl ?_
 refine pw_ 10 20 (tl_ 13 2047) rfl rfl ?_
 refine one_ (i := 11) (N := none) (tl_ 13 4095) rfl rfl (one_of HT_.out (g1_)) (by decide) (fun K hK => ?_)
 have eg6 : tx.cell? ⟨et, 0, none⟩ = some (.slice none 0 0) := (blk_cell eb.out 0).trans rfl
 have eg7 := blk_frozen eb.out 0
 have eg8 := t2.out
 have eg9 := aa7.out
 have eh0 : tx.cell? ⟨et, 1, none⟩ = some (.slice none 0 0) := (blk_cell eb.out 1).trans rfl
 have eh1 := blk_frozen eb.out 1
 have eh2 := t2.out
 have eh3 := aa7.out
 refine skip_ (w1 := ?_) (by rfl) rfl ?_ ?_
 rotate_left
 ·go_simp
  rfl
 refine hK.out _ _ ⟨(cf_ t2 ((cf_ t2 (hHeld.1)))), (cf_ t2 ((cf_ t2 (hHeld.2))))⟩ (fun hHeld => ?_)
 clear hK K
 refine pw_ 12 3 (tl_ 13 8191) rfl rfl ?_
 refine done_ (done_of HT_.out (g1_)) ?_
 try go_wp2
 refine bodyPost_ret (results_ct rfl _ _ et 25 #[.slice b7 ek.length bv, .slice gz gm.length f7] (0, 0) _ rfl (by (with_reducible repeat (first | refine blk_drewN ?_ _ | refine blk_drew ?_ | refine blk_alloc ?_ _)); refine blk_put (cs := #[.slice b7 ek.length bv, .slice none 0 0]) ?_ 1 _ rfl; refine blk_put (cs := #[.slice none 0 0, .slice none 0 0]) ?_ 0 _ rfl; exact uf0_ eb) Try.underlying25 rfl (g1_)) rfl ?_
 exact ⟨_, _, g4_, by (with_reducible repeat (first | apply Kd.R_alloc | apply Kd.R_drewN | apply Kd.R_drew)); exact Kd.R_mono (Kd.R_far (p := ⟨et, 1, none⟩) (Kd.R_far (p := ⟨et, 0, none⟩) (Kd.R_types gu.out eb.out (by decide)) (fun _ hk => hk.2) (.slice b7 ek.length bv)) (fun _ hk => hk.2) (.slice gz gm.length f7)) (fun _ hk => hk.1), by (with_reducible repeat (first | apply Kd.V_alloc | apply Kd.V_drewN | apply Kd.V_drew)); exact Kd.V_mono (Kd.V_far (p := ⟨et, 1, none⟩) (Kd.V_far (p := ⟨et, 0, none⟩) (Kd.V_mono g5.out (fun k_ hk => (⟨hk, hk.1.2.2.1⟩ : _ ∧ k_ ≠ et))) (fun _ hk => hk.2) (.slice b7 ek.length bv)) (fun _ hk => hk.2) (.slice gz gm.length f7)) (fun _ hk => ⟨hk.1.1.1, hk.1.1.2.1⟩), i7⟩
def cmp_isNaN_int.f (a0 : Int) : Option (Bool) := some (a0 != a0)
set_option maxHeartbeats 8000000 in
set_option maxRecDepth 100000 in
theorem cmp_isNaN_int.calls (a0 : Int) (r : Bool) (w : World) (h : cmp_isNaN_int.f a0 = some r) :
  Calls Try.prog 130 #[.int .i64 a0] w fun e w' => e = .returned (.bool r) ∧ Drawn0 w w' := by
 have H : (some (a0 != a0)) = some r := h
 clear h
 obtain rfl := Option.some.inj H
 go_enter Try.func130, Try.ntmps130
 go_wp2
 go_ret
 exact ⟨g2_, g5_⟩
def cmp_Compare_int.f (a0 : Int) (a1 : Int) : Option (Int) := (cmp_isNaN_int.f a0).bind fun zn => ((cmp_isNaN_int.f a1).bind fun qx => (if zn = true then (if qx = true then (some 0) else (some (-1))) else (if qx = true then (some 1) else (if a0 < a1 then (some (-1)) else (if a0 > a1 then (some 1) else (some 0))))))
set_option maxHeartbeats 8000000 in
set_option maxRecDepth 100000 in
theorem cmp_Compare_int.calls (a0 : Int) (a1 : Int) (r : Int) (w : World) (h : cmp_Compare_int.f a0 a1 = some r) :
  Calls Try.prog 120 #[.int .i64 a0, .int .i64 a1] w fun e w' => e = .returned (.int .i64 r) ∧ Drawn0 w w' := by
 have H : ((cmp_isNaN_int.f a0).bind fun zn => ((cmp_isNaN_int.f a1).bind fun qx => (if zn = true then (if qx = true then (some 0) else (some (-1))) else (if qx = true then (some 1) else (if a0 < a1 then (some (-1)) else (if a0 > a1 then (some 1) else (some 0))))))) = some r := h
 clear h
 obtain ⟨zn, A3, H⟩ := bind_ H
 obtain ⟨qx, A4, H⟩ := bind_ H
 by_cases c5 : zn = true
 ·subst c5
  replace H := ifp_ H
  by_cases c6 : qx = true
  ·subst c6
   replace H := ifp_ H
   obtain rfl := Option.some.inj H
   go_enter Try.func120, Try.ntmps120
   go_wp2_with (first | ((with_reducible refine gate_callee (f := 130) rfl ?_); refine goesL_ (some 8) rfl rfl Try.func130 k_ rfl #[.int .i64 a0] rfl (g3_) ?_; (with_reducible refine (cmp_isNaN_int.calls a0 true _ A3.out).mono ?_); rintro e w' ⟨rfl, ⟨nd, rfl⟩⟩; refine ⟨_, rfl, ?_⟩) | ((with_reducible refine gate_callee (f := 130) rfl ?_); refine goesL_ (some 10) rfl rfl Try.func130 k_ rfl #[.int .i64 a1] rfl (g3_) ?_; (with_reducible refine (cmp_isNaN_int.calls a1 true _ A4.out).mono ?_); rintro e w' ⟨rfl, ⟨nd, rfl⟩⟩; refine ⟨_, rfl, ?_⟩))
   go_ret
   exact ⟨g2_, g5_⟩
  ·replace c6 := Bool.eq_false_iff.mpr c6
   subst c6
   replace H := ifn_ H
   obtain rfl := Option.some.inj H
   go_enter Try.func120, Try.ntmps120
   go_wp2_with (first | ((with_reducible refine gate_callee (f := 130) rfl ?_); refine goesL_ (some 8) rfl rfl Try.func130 k_ rfl #[.int .i64 a0] rfl (g3_) ?_; (with_reducible refine (cmp_isNaN_int.calls a0 true _ A3.out).mono ?_); rintro e w' ⟨rfl, ⟨nd, rfl⟩⟩; refine ⟨_, rfl, ?_⟩) | ((with_reducible refine gate_callee (f := 130) rfl ?_); refine goesL_ (some 10) rfl rfl Try.func130 k_ rfl #[.int .i64 a1] rfl (g3_) ?_; (with_reducible refine (cmp_isNaN_int.calls a1 false _ A4.out).mono ?_); rintro e w' ⟨rfl, ⟨nd, rfl⟩⟩; refine ⟨_, rfl, ?_⟩))
   go_ret
   exact ⟨g2_, g5_⟩
 ·replace c5 := Bool.eq_false_iff.mpr c5
  subst c5
  replace H := ifn_ H
  by_cases c7 : qx = true
  ·subst c7
   replace H := ifp_ H
   obtain rfl := Option.some.inj H
   go_enter Try.func120, Try.ntmps120
   go_wp2_with (first | ((with_reducible refine gate_callee (f := 130) rfl ?_); refine goesL_ (some 8) rfl rfl Try.func130 k_ rfl #[.int .i64 a0] rfl (g3_) ?_; (with_reducible refine (cmp_isNaN_int.calls a0 false _ A3.out).mono ?_); rintro e w' ⟨rfl, ⟨nd, rfl⟩⟩; refine ⟨_, rfl, ?_⟩) | ((with_reducible refine gate_callee (f := 130) rfl ?_); refine goesL_ (some 10) rfl rfl Try.func130 k_ rfl #[.int .i64 a1] rfl (g3_) ?_; (with_reducible refine (cmp_isNaN_int.calls a1 true _ A4.out).mono ?_); rintro e w' ⟨rfl, ⟨nd, rfl⟩⟩; refine ⟨_, rfl, ?_⟩))
   go_ret
   exact ⟨g2_, g5_⟩
  ·replace c7 := Bool.eq_false_iff.mpr c7
   subst c7
   replace H := ifn_ H
   by_cases c8 : a0 < a1
   ·rw [if_pos c8] at H
    have ai8 := decide_eq_true c8
    clear c8
    obtain rfl := Option.some.inj H
    go_enter Try.func120, Try.ntmps120
    go_wp2_with (first | ((with_reducible refine gate_callee (f := 130) rfl ?_); refine goesL_ (some 8) rfl rfl Try.func130 k_ rfl #[.int .i64 a0] rfl (g3_) ?_; (with_reducible refine (cmp_isNaN_int.calls a0 false _ A3.out).mono ?_); rintro e w' ⟨rfl, ⟨nd, rfl⟩⟩; refine ⟨_, rfl, ?_⟩) | ((with_reducible refine gate_callee (f := 130) rfl ?_); refine goesL_ (some 10) rfl rfl Try.func130 k_ rfl #[.int .i64 a1] rfl (g3_) ?_; (with_reducible refine (cmp_isNaN_int.calls a1 false _ A4.out).mono ?_); rintro e w' ⟨rfl, ⟨nd, rfl⟩⟩; refine ⟨_, rfl, ?_⟩))
    go_ret
    exact ⟨g2_, g5_⟩
   ·rw [if_neg c8] at H
    have ai8 := decide_eq_false c8
    clear c8
    by_cases c9 : a0 > a1
    ·rw [if_pos c9] at H
     have mm := decide_eq_true c9
     clear c9
     obtain rfl := Option.some.inj H
     go_enter Try.func120, Try.ntmps120
     go_wp2_with (first | ((with_reducible refine gate_callee (f := 130) rfl ?_); refine goesL_ (some 8) rfl rfl Try.func130 k_ rfl #[.int .i64 a0] rfl (g3_) ?_; (with_reducible refine (cmp_isNaN_int.calls a0 false _ A3.out).mono ?_); rintro e w' ⟨rfl, ⟨nd, rfl⟩⟩; refine ⟨_, rfl, ?_⟩) | ((with_reducible refine gate_callee (f := 130) rfl ?_); refine goesL_ (some 10) rfl rfl Try.func130 k_ rfl #[.int .i64 a1] rfl (g3_) ?_; (with_reducible refine (cmp_isNaN_int.calls a1 false _ A4.out).mono ?_); rintro e w' ⟨rfl, ⟨nd, rfl⟩⟩; refine ⟨_, rfl, ?_⟩))
     go_ret
     exact ⟨g2_, g5_⟩
    ·rw [if_neg c9] at H
     have mm := decide_eq_false c9
     clear c9
     obtain rfl := Option.some.inj H
     go_enter Try.func120, Try.ntmps120
     go_wp2_with (first | ((with_reducible refine gate_callee (f := 130) rfl ?_); refine goesL_ (some 8) rfl rfl Try.func130 k_ rfl #[.int .i64 a0] rfl (g3_) ?_; (with_reducible refine (cmp_isNaN_int.calls a0 false _ A3.out).mono ?_); rintro e w' ⟨rfl, ⟨nd, rfl⟩⟩; refine ⟨_, rfl, ?_⟩) | ((with_reducible refine gate_callee (f := 130) rfl ?_); refine goesL_ (some 10) rfl rfl Try.func130 k_ rfl #[.int .i64 a1] rfl (g3_) ?_; (with_reducible refine (cmp_isNaN_int.calls a1 false _ A4.out).mono ?_); rintro e w' ⟨rfl, ⟨nd, rfl⟩⟩; refine ⟨_, rfl, ?_⟩))
     go_ret
     exact ⟨g2_, g5_⟩
def slices_Compare_int_int.l0 : Nat → List Int → List Int → List Int → Int → Int → Option (Int)
 | 0, _, _, _, _, _ => none
 | k + 1, x0, x1, x9, jd, gh => if gh < jd then (if 0 ≤ gh then (if gh < (x9.length : Int) then (if gh ≥ (x1.length : Int) then (some 1) else (if gh < (x1.length : Int) then ((cmp_Compare_int.f (rd x9 gh) (rd x1 gh)).bind fun oh => (if oh = 0 then (slices_Compare_int_int.l0 k x0 x1 x9 jd (wrap64 (gh + 1))) else (some oh))) else (none))) else (none)) else (none)) else (if (x0.length : Int) < (x1.length : Int) then (some (-1)) else (some 0))
def slices_Compare_int_int.f (k : Nat) (l0 : List Int) (l1 : List Int) : Option (Int) := slices_Compare_int_int.l0 k l0 l1 l0 (l0.length : Int) 0
theorem slices_Compare_int_int.mq {p : Prop} (h : p := by
 repeat' first
 | (with_reducible exact ih0 _ _ _ _ _)
 | (with_reducible exact LeO.refl _)
 | (with_reducible exact LeO.none _)
 | (with_reducible refine LeO.ite ?_ ?_)
 | (with_reducible refine LeO.bind ?_ (fun _ => ?_))
 | exact ih0 _ _ _ _ _
 | exact LeO.none _
 | refine LeO.ite ?_ ?_
 | refine LeO.bind ?_ (fun _ => ?_)) : p := h
theorem slices_Compare_int_int.mono_l : ∀ k, (∀ y0 y1 y2 y3 y4, LeO (slices_Compare_int_int.l0 k y0 y1 y2 y3 y4) (slices_Compare_int_int.l0 (k + 1) y0 y1 y2 y3 y4))
 | 0 => fun _ _ _ _ _ r h => by simp [slices_Compare_int_int.l0] at h
 | k + 1 => by
  have ih0 := slices_Compare_int_int.mono_l k
  ·intro y0 y1 y2 y3 y4
   unfold slices_Compare_int_int.l0
   exact slices_Compare_int_int.mq
theorem slices_Compare_int_int.mono : ∀ a0 a1 k, LeO (slices_Compare_int_int.f k a0 a1) (slices_Compare_int_int.f (k + 1) a0 a1) := by
 intro a0 a1 k
 have ih0 := slices_Compare_int_int.mono_l k
 unfold slices_Compare_int_int.f
 exact slices_Compare_int_int.mq
set_option maxHeartbeats 8000000 in
set_option maxRecDepth 100000 in
theorem slices_Compare_int_int.calls (k : Nat) (A0 : Option Addr) (c0 : Nat) (l0 : List Int) (A1 : Option Addr) (c1 : Nat) (l1 : List Int) (r : Int) (w : World) (br : Kd.C (Kd.int .i64) w A0 l0.length l0) (cx : l0.length ≤ c0) (er : Kd.C (Kd.int .i64) w A1 l1.length l1) (ey : l1.length ≤ c1) (h : slices_Compare_int_int.f k l0 l1 = some r) :
  Calls Try.prog 121 #[.slice A0 l0.length c0, .slice A1 l1.length c1] w fun e w' => e = .returned (.int .i64 r) ∧ Drawn0 w w' := by
 have dz := Aside0.mk br
 have kt := Aside0.mk cx
 clear br cx
 have dc := Aside0.mk er
 have uz := Aside0.mk ey
 clear er ey
 have H : (slices_Compare_int_int.l0 k l0 l1 l0 (l0.length : Int) 0) = some r := h
 clear h
 have H' := Aside0.mk H
 clear H
 go_enter Try.func121, Try.ntmps121
 go_wp2
 go_loopg [11] k (fun kq yc w' => ∃ (b8 : Int), yc = .int .i64 b8 ∧ Aside0 (slices_Compare_int_int.l0 kq l0 l1 l0 (l0.length : Int) b8 = some r) ∧ Aside0 (kq ≤ k) ∧ Drawn0 w w')
 case atStart => exact ⟨(0), (g2_), H', ⟨Nat.le_refl _⟩, g5_⟩
 case round =>
  clear H'
  try clear c1
  try clear p2
  obtain ⟨b8, rfl, HA, HK1, ⟨m1, rfl⟩⟩ := hrel
  cases gk with
  | zero => exact absurd HA.out (by simp [slices_Compare_int_int.l0])
  | succ k1 =>
   have H := HA.out
   clear HA
   simp only [slices_Compare_int_int.l0] at H
   by_cases c3 : b8 < (l0.length : Int)
   ·rw [if_pos c3] at H
    have d8 := decide_eq_true c3
    clear c3
    obtain ⟨c4, H⟩ := pos_ H
    have fw := decide_eq_true c4
    clear c4
    obtain ⟨c5, H⟩ := pos_ H
    have dv := decide_eq_true c5
    clear c5
    by_cases c6 : b8 ≥ (l1.length : Int)
    ·rw [if_pos c6] at H
     have fj := decide_eq_true c6
     clear c6
     obtain rfl := Option.some.inj H
     have ng : 0 ≤ (b8 : Int) := of_decide_eq_true (g0_)
     have nh : b8 < (l0.length : Int) := of_decide_eq_true (g0_)
     obtain ⟨ca6, aa9, ca7⟩ := Kd.at_int dz.out b8 ng nh
     cases aa9
     replace ng := eq_true ng
     replace nh := eq_true nh
     go_wp2
     go_ret
     exact ⟨g2_, g5_⟩
    ·rw [if_neg c6] at H
     have fj := decide_eq_false c6
     clear c6
     obtain ⟨c7, H⟩ := pos_ H
     have xq := decide_eq_true c7
     clear c7
     obtain ⟨oh, A8, H⟩ := bind_ H
     by_cases c9 : oh = 0
     ·rw [if_pos c9] at H
      have mm : (oh == 0) = true := beq_iff_eq.mpr c9
      have db4 : (oh != 0) = false := bne_eq_false_iff_eq.mpr c9
      clear c9
      have H' := Aside0.mk H
      clear H
      have ng : 0 ≤ (b8 : Int) := of_decide_eq_true (g0_)
      have nh : b8 < (l0.length : Int) := of_decide_eq_true (g0_)
      obtain ⟨ca6, aa9, ca7⟩ := Kd.at_int dz.out b8 ng nh
      cases aa9
      replace ng := eq_true ng
      replace nh := eq_true nh
      have t5 : 0 ≤ (b8 : Int) := of_decide_eq_true (g0_)
      have t6 : b8 < (l1.length : Int) := of_decide_eq_true (g0_)
      obtain ⟨db5, be7, db6⟩ := Kd.at_int dc.out b8 t5 t6
      cases be7
      replace t5 := eq_true t5
      replace t6 := eq_true t6
      go_wp2_with (first | ((with_reducible refine gate_callee (f := 120) rfl ?_); refine goesL_ (some 26) rfl rfl Try.func120 k_ rfl #[.int .i64 (rd l0 b8), .int .i64 (rd l1 b8)] rfl (g3_) ?_; (with_reducible refine (cmp_Compare_int.calls (rd l0 b8) (rd l1 b8) oh _ A8.out).mono ?_); rintro e w' ⟨rfl, ⟨nd, rfl⟩⟩; refine ⟨_, rfl, ?_⟩))
      go_roundg k1
      case measure => have := HK1.out; omega
      case rel => exact ⟨(wrap64 (b8 + 1)), (g2_), H', ⟨g8_⟩, g5_⟩
     ·rw [if_neg c9] at H
      have mm : (oh == 0) = false := beq_eq_false_iff_ne.mpr c9
      have db4 : (oh != 0) = true := bne_iff_ne.mpr c9
      obtain rfl := Option.some.inj H
      have ng : 0 ≤ (b8 : Int) := of_decide_eq_true (g0_)
      have nh : b8 < (l0.length : Int) := of_decide_eq_true (g0_)
      obtain ⟨ca6, aa9, ca7⟩ := Kd.at_int dz.out b8 ng nh
      cases aa9
      replace ng := eq_true ng
      replace nh := eq_true nh
      have t5 : 0 ≤ (b8 : Int) := of_decide_eq_true (g0_)
      have t6 : b8 < (l1.length : Int) := of_decide_eq_true (g0_)
      obtain ⟨db5, be7, db6⟩ := Kd.at_int dc.out b8 t5 t6
      cases be7
      replace t5 := eq_true t5
      replace t6 := eq_true t6
      go_wp2_with (first | ((with_reducible refine gate_callee (f := 120) rfl ?_); refine goesL_ (some 26) rfl rfl Try.func120 k_ rfl #[.int .i64 (rd l0 b8), .int .i64 (rd l1 b8)] rfl (g3_) ?_; (with_reducible refine (cmp_Compare_int.calls (rd l0 b8) (rd l1 b8) oh _ A8.out).mono ?_); rintro e w' ⟨rfl, ⟨nd, rfl⟩⟩; refine ⟨_, rfl, ?_⟩))
      go_ret
      exact ⟨g2_, g5_⟩
   ·rw [if_neg c3] at H
    have d8 := decide_eq_false c3
    clear c3
    by_cases b9 : (l0.length : Int) < (l1.length : Int)
    ·rw [if_pos b9] at H
     have fy := decide_eq_true b9
     have td : decide (l0.length < l1.length) = true := decide_eq_true (Int.ofNat_lt.mp b9)
     clear b9
     obtain rfl := Option.some.inj H
     go_wp2
     go_ret
     exact ⟨g2_, g5_⟩
    ·rw [if_neg b9] at H
     have fy := decide_eq_false b9
     have td : decide (l0.length < l1.length) = false := decide_eq_false (fun h => b9 (Int.ofNat_lt.mpr h))
     clear b9
     obtain rfl := Option.some.inj H
     go_wp2
     go_ret
     exact ⟨g2_, g5_⟩
def cmp_Or_int.l0 : Nat → Int → List Int → Int → Int → Option (Int)
 | 0, _, _, _, _ => none
 | k + 1, x3, x6, x7, x8 => if x8 < x7 then (if 0 ≤ x8 then (if x8 < (x6.length : Int) then (if (rd x6 x8) = x3 then (cmp_Or_int.l0 k x3 x6 x7 (wrap64 (x8 + 1))) else (some (rd x6 x8))) else (none)) else (none)) else (some x3)
def cmp_Or_int.f (k : Nat) (l0 : List Int) : Option (Int) := cmp_Or_int.l0 k 0 l0 (l0.length : Int) 0
theorem cmp_Or_int.mq {p : Prop} (h : p := by
 repeat' first
 | (with_reducible exact ih0 _ _ _ _)
 | (with_reducible exact LeO.refl _)
 | (with_reducible exact LeO.none _)
 | (with_reducible refine LeO.ite ?_ ?_)
 | (with_reducible refine LeO.bind ?_ (fun _ => ?_))
 | exact ih0 _ _ _ _
 | exact LeO.none _
 | refine LeO.ite ?_ ?_
 | refine LeO.bind ?_ (fun _ => ?_)) : p := h
theorem cmp_Or_int.mono_l : ∀ k, (∀ y0 y1 y2 y3, LeO (cmp_Or_int.l0 k y0 y1 y2 y3) (cmp_Or_int.l0 (k + 1) y0 y1 y2 y3))
 | 0 => fun _ _ _ _ r h => by simp [cmp_Or_int.l0] at h
 | k + 1 => by
  have ih0 := cmp_Or_int.mono_l k
  ·intro y0 y1 y2 y3
   unfold cmp_Or_int.l0
   exact cmp_Or_int.mq
theorem cmp_Or_int.mono : ∀ a0 k, LeO (cmp_Or_int.f k a0) (cmp_Or_int.f (k + 1) a0) := by
 intro a0 k
 have ih0 := cmp_Or_int.mono_l k
 unfold cmp_Or_int.f
 exact cmp_Or_int.mq
set_option maxHeartbeats 8000000 in
set_option maxRecDepth 100000 in
theorem cmp_Or_int.calls (k : Nat) (A0 : Option Addr) (c0 : Nat) (l0 : List Int) (r : Int) (w : World) (br : Kd.C (Kd.int .i64) w A0 l0.length l0) (cx : l0.length ≤ c0) (h : cmp_Or_int.f k l0 = some r) :
  Calls Try.prog 119 #[.slice A0 l0.length c0] w fun e w' => e = .returned (.int .i64 r) ∧ Drawn0 w w' := by
 have dz := Aside0.mk br
 have kt := Aside0.mk cx
 clear br cx
 have H : (cmp_Or_int.l0 k 0 l0 (l0.length : Int) 0) = some r := h
 clear h
 have H' := Aside0.mk H
 clear H
 go_enter Try.func119, Try.ntmps119
 go_wp2
 go_loopg [8] k (fun kq v8 w' => ∃ (cd : Int), v8 = .int .i64 cd ∧ Aside0 (cmp_Or_int.l0 kq 0 l0 (l0.length : Int) cd = some r) ∧ Aside0 (kq ≤ k) ∧ Drawn0 w w')
 case atStart => exact ⟨(0), (g2_), H', ⟨Nat.le_refl _⟩, g5_⟩
 case round =>
  clear H'
  try clear c1
  obtain ⟨cd, rfl, HA, HK1, ⟨m1, rfl⟩⟩ := hrel
  cases gk with
  | zero => exact absurd HA.out (by simp [cmp_Or_int.l0])
  | succ k1 =>
   have H := HA.out
   clear HA
   simp only [cmp_Or_int.l0] at H
   by_cases c2 : cd < (l0.length : Int)
   ·rw [if_pos c2] at H
    have jx := decide_eq_true c2
    clear c2
    obtain ⟨c3, H⟩ := pos_ H
    have d8 := decide_eq_true c3
    clear c3
    obtain ⟨c4, H⟩ := pos_ H
    have fw := decide_eq_true c4
    clear c4
    by_cases c5 : (rd l0 cd) = 0
    ·rw [if_pos c5] at H
     have dv : ((rd l0 cd) == 0) = true := beq_iff_eq.mpr c5
     have r0 : ((rd l0 cd) != 0) = false := bne_eq_false_iff_eq.mpr c5
     clear c5
     have H' := Aside0.mk H
     clear H
     have uj : 0 ≤ (cd : Int) := of_decide_eq_true (g0_)
     have uk : cd < (l0.length : Int) := of_decide_eq_true (g0_)
     obtain ⟨dq0, bl6, dq1⟩ := Kd.at_int dz.out cd uj uk
     cases bl6
     replace uj := eq_true uj
     replace uk := eq_true uk
     go_wp2
     go_roundg k1
     case measure => have := HK1.out; omega
     case rel => exact ⟨(wrap64 (cd + 1)), (g2_), H', ⟨g8_⟩, g5_⟩
    ·rw [if_neg c5] at H
     have dv : ((rd l0 cd) == 0) = false := beq_eq_false_iff_ne.mpr c5
     have r0 : ((rd l0 cd) != 0) = true := bne_iff_ne.mpr c5
     obtain rfl := Option.some.inj H
     have uj : 0 ≤ (cd : Int) := of_decide_eq_true (g0_)
     have uk : cd < (l0.length : Int) := of_decide_eq_true (g0_)
     obtain ⟨dq0, bl6, dq1⟩ := Kd.at_int dz.out cd uj uk
     cases bl6
     replace uj := eq_true uj
     replace uk := eq_true uk
     go_wp2
     go_ret
     exact ⟨g2_, g5_⟩
   ·rw [if_neg c2] at H
    have jx := decide_eq_false c2
    clear c2
    obtain rfl := Option.some.inj H
    go_wp2
    go_ret
    exact ⟨g2_, g5_⟩
def slices_Index_int_int.l0 : Nat → List Int → Int → Int → Int → Option (Int)
 | 0, _, _, _, _ => none
 | k + 1, x0, x1, x7, x8 => if x8 < x7 then (if 0 ≤ x8 then (if x8 < (x0.length : Int) then (if x1 = (rd x0 x8) then (some x8) else (slices_Index_int_int.l0 k x0 x1 x7 (wrap64 (x8 + 1)))) else (none)) else (none)) else (some (-1))
def slices_Index_int_int.f (k : Nat) (l0 : List Int) (a1 : Int) : Option (Int) := slices_Index_int_int.l0 k l0 a1 (l0.length : Int) 0
theorem slices_Index_int_int.mq {p : Prop} (h : p := by
 repeat' first
 | (with_reducible exact ih0 _ _ _ _)
 | (with_reducible exact LeO.refl _)
 | (with_reducible exact LeO.none _)
 | (with_reducible refine LeO.ite ?_ ?_)
 | (with_reducible refine LeO.bind ?_ (fun _ => ?_))
 | exact ih0 _ _ _ _
 | exact LeO.none _
 | refine LeO.ite ?_ ?_
 | refine LeO.bind ?_ (fun _ => ?_)) : p := h
theorem slices_Index_int_int.mono_l : ∀ k, (∀ y0 y1 y2 y3, LeO (slices_Index_int_int.l0 k y0 y1 y2 y3) (slices_Index_int_int.l0 (k + 1) y0 y1 y2 y3))
 | 0 => fun _ _ _ _ r h => by simp [slices_Index_int_int.l0] at h
 | k + 1 => by
  have ih0 := slices_Index_int_int.mono_l k
  ·intro y0 y1 y2 y3
   unfold slices_Index_int_int.l0
   exact slices_Index_int_int.mq
theorem slices_Index_int_int.mono : ∀ a0 a1 k, LeO (slices_Index_int_int.f k a0 a1) (slices_Index_int_int.f (k + 1) a0 a1) := by
 intro a0 a1 k
 have ih0 := slices_Index_int_int.mono_l k
 unfold slices_Index_int_int.f
 exact slices_Index_int_int.mq
set_option maxHeartbeats 8000000 in
set_option maxRecDepth 100000 in
theorem slices_Index_int_int.calls (k : Nat) (A0 : Option Addr) (c0 : Nat) (l0 : List Int) (a1 : Int) (r : Int) (w : World) (br : Kd.C (Kd.int .i64) w A0 l0.length l0) (cx : l0.length ≤ c0) (h : slices_Index_int_int.f k l0 a1 = some r) :
  Calls Try.prog 128 #[.slice A0 l0.length c0, .int .i64 a1] w fun e w' => e = .returned (.int .i64 r) ∧ Drawn0 w w' := by
 have dz := Aside0.mk br
 have kt := Aside0.mk cx
 clear br cx
 have H : (slices_Index_int_int.l0 k l0 a1 (l0.length : Int) 0) = some r := h
 clear h
 have H' := Aside0.mk H
 clear H
 go_enter Try.func128, Try.ntmps128
 go_wp2
 go_loopg [8] k (fun kq v8 w' => ∃ (cd : Int), v8 = .int .i64 cd ∧ Aside0 (slices_Index_int_int.l0 kq l0 a1 (l0.length : Int) cd = some r) ∧ Aside0 (kq ≤ k) ∧ Drawn0 w w')
 case atStart => exact ⟨(0), (g2_), H', ⟨Nat.le_refl _⟩, g5_⟩
 case round =>
  clear H'
  try clear c1
  try clear p2
  obtain ⟨cd, rfl, HA, HK1, ⟨m1, rfl⟩⟩ := hrel
  cases gk with
  | zero => exact absurd HA.out (by simp [slices_Index_int_int.l0])
  | succ k1 =>
   have H := HA.out
   clear HA
   simp only [slices_Index_int_int.l0] at H
   by_cases c3 : cd < (l0.length : Int)
   ·rw [if_pos c3] at H
    have d8 := decide_eq_true c3
    clear c3
    obtain ⟨c4, H⟩ := pos_ H
    have fw := decide_eq_true c4
    clear c4
    obtain ⟨c5, H⟩ := pos_ H
    have dv := decide_eq_true c5
    clear c5
    by_cases c6 : a1 = (rd l0 cd)
    ·rw [if_pos c6] at H
     have fj : (a1 == (rd l0 cd)) = true := beq_iff_eq.mpr c6
     have r4 : (a1 != (rd l0 cd)) = false := bne_eq_false_iff_eq.mpr c6
     clear c6
     obtain rfl := Option.some.inj H
     have ul : 0 ≤ (cd : Int) := of_decide_eq_true (g0_)
     have um : cd < (l0.length : Int) := of_decide_eq_true (g0_)
     obtain ⟨dq2, bl7, dq3⟩ := Kd.at_int dz.out cd ul um
     cases bl7
     replace ul := eq_true ul
     replace um := eq_true um
     go_wp2
     go_ret
     exact ⟨g2_, g5_⟩
    ·rw [if_neg c6] at H
     have fj : (a1 == (rd l0 cd)) = false := beq_eq_false_iff_ne.mpr c6
     have r4 : (a1 != (rd l0 cd)) = true := bne_iff_ne.mpr c6
     have H' := Aside0.mk H
     clear H
     have ul : 0 ≤ (cd : Int) := of_decide_eq_true (g0_)
     have um : cd < (l0.length : Int) := of_decide_eq_true (g0_)
     obtain ⟨dq2, bl7, dq3⟩ := Kd.at_int dz.out cd ul um
     cases bl7
     replace ul := eq_true ul
     replace um := eq_true um
     go_wp2
     go_roundg k1
     case measure => have := HK1.out; omega
     case rel => exact ⟨(wrap64 (cd + 1)), (g2_), H', ⟨g8_⟩, g5_⟩
   ·rw [if_neg c3] at H
    have d8 := decide_eq_false c3
    clear c3
    obtain rfl := Option.some.inj H
    go_wp2
    go_ret
    exact ⟨g2_, g5_⟩
def slices_Contains_int_int.f (k : Nat) (l0 : List Int) (a1 : Int) : Option (Bool) := (slices_Index_int_int.f k l0 a1).bind fun ae6 => (some (decide (ae6 ≥ 0)))
theorem slices_Contains_int_int.mq {p : Prop} (h : p := by
 repeat' first
 | (with_reducible exact slices_Index_int_int.mono _ _ _)
 | (with_reducible exact LeO.refl _)
 | (with_reducible exact LeO.none _)
 | (with_reducible refine LeO.ite ?_ ?_)
 | (with_reducible refine LeO.bind ?_ (fun _ => ?_))
 | exact slices_Index_int_int.mono _ _ _
 | exact LeO.none _
 | refine LeO.ite ?_ ?_
 | refine LeO.bind ?_ (fun _ => ?_)) : p := h
theorem slices_Contains_int_int.mono : ∀ a0 a1 k, LeO (slices_Contains_int_int.f k a0 a1) (slices_Contains_int_int.f (k + 1) a0 a1) := by
 intro a0 a1 k
 unfold slices_Contains_int_int.f
 exact slices_Contains_int_int.mq
set_option maxHeartbeats 8000000 in
set_option maxRecDepth 100000 in
theorem slices_Contains_int_int.calls (k : Nat) (A0 : Option Addr) (c0 : Nat) (l0 : List Int) (a1 : Int) (r : Bool) (w : World) (br : Kd.C (Kd.int .i64) w A0 l0.length l0) (cx : l0.length ≤ c0) (h : slices_Contains_int_int.f k l0 a1 = some r) :
  Calls Try.prog 116 #[.slice A0 l0.length c0, .int .i64 a1] w fun e w' => e = .returned (.bool r) ∧ Drawn0 w w' := by
 have dz := Aside0.mk br
 have kt := Aside0.mk cx
 clear br cx
 have H : ((slices_Index_int_int.f k l0 a1).bind fun ae6 => (some (decide (ae6 ≥ 0)))) = some r := h
 clear h
 obtain ⟨ae6, A3, H⟩ := bind_ H
 obtain rfl := Option.some.inj H
 go_enter Try.func116, Try.ntmps116
 go_wp2_with (first | ((with_reducible refine gate_callee (f := 128) rfl ?_); refine goesL_ (some 7) rfl rfl Try.func128 k_ rfl #[.slice A0 l0.length c0, .int .i64 a1] rfl (g3_) ?_; (with_reducible refine (slices_Index_int_int.calls k _ _ l0 a1 ae6 _ ?side1 ?side2 A3.out).mono ?_); (case side1 => repeat (first | exact dz.out | (with_reducible refine Kd.C_alloc ?_ _) | (with_reducible refine Kd.C_drewN ?_ _) | (with_reducible refine Kd.C_drew ?_))); (case side2 => exact kt.out); rintro e w' ⟨rfl, ⟨nd, rfl⟩⟩; refine ⟨_, rfl, ?_⟩))
 go_ret
 exact ⟨g2_, g5_⟩
end Go.Proofs.Ytfooakkhkehpiaa.PU
