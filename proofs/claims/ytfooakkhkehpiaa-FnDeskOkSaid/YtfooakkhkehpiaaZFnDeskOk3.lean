/- FnDeskOk: for every input the law holds. No condition. -/
import Derived.Test.YtfooakkhkehpiaaZFnDeskOk1
import Derived.Test.YtfooakkhkehpiaaZFnDeskOk2
namespace Go.Proofs.Ytfooakkhkehpiaa.PU
open Go.RowKit Go.Proofs.YtfooakkhkehpiaaW.PrintWords Go.Proofs.YtfooakkhkehpiaaW.PrintLast Go.Proofs.YtfooakkhkehpiaaW.PrintMore Go.Proofs.Ytfooakkhkehpiaa.Qd
attribute [local go_sem] max2_int min2_int max_two min_two max_three min_three max_four min_four
set_option linter.unusedVariables false
set_option linter.unusedSimpArgs false
mutual
def spec_l3Paths.j0 : Nat → List Int → List (List Int) → Int → Bool → List Int → List (List Int) → Option ((List (List Int)))
 | 0, _, _, _, _, _, _ => none
 | k + 1, x1, x5, x6, x31, pl, nw => if x31 = true then ((some (([] : List Int) : List Int)).bind fun yg => (if yg.length + x1.length < 17592186044416 then ((some (([(yg ++ x1)] : List (List Int)) : List (List Int))).bind fun os => (if x5.length + os.length < 5864062014805 then (spec_l3Paths.j1 k x1 (x5 ++ os) x6 pl nw) else (none))) else (none))) else (spec_l3Paths.j1 k x1 x5 x6 pl nw)
def spec_l3Paths.j1 : Nat → List Int → List (List Int) → Int → List Int → List (List Int) → Option ((List (List Int)))
 | 0, _, _, _, _, _ => none
 | k + 1, x1, x5, x6, pl, nw => if 0 < (x1.length : Int) then (spec_l3Paths.l0 k x1 x5 x6 (wrap64 ((rd x1 0) + 1)) pl nw) else (none)
def spec_l3Paths.l0 : Nat → List Int → List (List Int) → Int → Int → List Int → List (List Int) → Option ((List (List Int)))
 | 0, _, _, _, _, _, _ => none
 | k + 1, x1, x5, x6, x7, pl, nw => if x7 < (pl.length : Int) then (if 0 ≤ x6 then (if x6 < (nw.length : Int) then (if 0 ≤ x7 then (if x7 < ((rd_L1 nw x6).length : Int) then (if (rd (rd_L1 nw x6) x7) = 0 then (spec_l3Paths.l0 k x1 x5 x6 (wrap64 (x7 + 1)) pl nw) else (spec_l3Paths.l1 k x1 x5 x6 x7 0 pl nw)) else (none)) else (none)) else (none)) else (none)) else (some x5)
def spec_l3Paths.l1 : Nat → List Int → List (List Int) → Int → Int → Int → List Int → List (List Int) → Option ((List (List Int)))
 | 0, _, _, _, _, _, _, _ => none
 | k + 1, x1, x5, x6, x7, x8, pl, nw => if x8 < (x1.length : Int) then (if 0 ≤ x8 then (if (rd x1 x8) = x7 then (spec_l3Paths.l0 k x1 x5 x6 (wrap64 (x7 + 1)) pl nw) else (spec_l3Paths.l1 k x1 x5 x6 x7 (wrap64 (x8 + 1)) pl nw)) else (none)) else ((some (([] : List Int) : List Int)).bind fun vc => (if vc.length + x1.length < 17592186044416 then ((some (vc ++ x1 : List Int)).bind fun ot => ((some (([x7] : List Int) : List Int)).bind fun jz => (if ot.length + jz.length < 17592186044416 then ((spec_l3Paths.f k pl nw (ot ++ jz)).bind fun lo => (if x5.length + lo.length < 5864062014805 then (spec_l3Paths.l0 k x1 (x5 ++ lo) x6 (wrap64 (x7 + 1)) pl nw) else (none))) else (none)))) else (none)))
def spec_l3Paths.f : Nat → List Int → List (List Int) → List Int → Option ((List (List Int)))
 | 0, _, _, _ => none
 | k + 1, ab, aa, l1 => (some (([] : List (List Int)) : List (List Int))).bind fun j3 => (if 0 ≤ (wrap64 ((l1.length : Int) - 1)) then (if (wrap64 ((l1.length : Int) - 1)) < (l1.length : Int) then (if (l1.length : Int) > 1 then (if 0 ≤ (rd l1 (wrap64 ((l1.length : Int) - 1))) then (if (rd l1 (wrap64 ((l1.length : Int) - 1))) < (aa.length : Int) then (if 0 < (l1.length : Int) then (if 0 ≤ (rd l1 0) then (if (rd l1 0) < ((rd_L1 aa (rd l1 (wrap64 ((l1.length : Int) - 1)))).length : Int) then (spec_l3Paths.j0 k l1 j3 (rd l1 (wrap64 ((l1.length : Int) - 1))) (decide ((rd (rd_L1 aa (rd l1 (wrap64 ((l1.length : Int) - 1)))) (rd l1 0)) > 0)) ab aa) else (none)) else (none)) else (none)) else (none)) else (none)) else (spec_l3Paths.j0 k l1 j3 (rd l1 (wrap64 ((l1.length : Int) - 1))) false ab aa)) else (none)) else (none))
end
theorem spec_l3Paths.mq {p : Prop} (h : p := by
 repeat' first
 | (with_reducible exact ih0 _ _ _)
 | (with_reducible exact ih1 _ _ _ _ _ _)
 | (with_reducible exact ih2 _ _ _ _ _)
 | (with_reducible exact ih3 _ _ _ _ _ _)
 | (with_reducible exact ih4 _ _ _ _ _ _ _)
 | (with_reducible exact LeO.refl _)
 | (with_reducible exact LeO.none _)
 | (with_reducible refine LeO.ite ?_ ?_)
 | (with_reducible refine LeO.bind ?_ (fun _ => ?_))
 | exact ih0 _ _ _
 | exact ih1 _ _ _ _ _ _
 | exact ih2 _ _ _ _ _
 | exact ih3 _ _ _ _ _ _
 | exact ih4 _ _ _ _ _ _ _
 | exact LeO.none _
 | refine LeO.ite ?_ ?_
 | refine LeO.bind ?_ (fun _ => ?_)) : p := h
theorem spec_l3Paths.mono_l : ∀ k, (∀ y0 y1 y2, LeO (spec_l3Paths.f k y0 y1 y2) (spec_l3Paths.f (k + 1) y0 y1 y2)) ∧ (∀ y0 y1 y2 y3 y4 y5, LeO (spec_l3Paths.j0 k y0 y1 y2 y3 y4 y5) (spec_l3Paths.j0 (k + 1) y0 y1 y2 y3 y4 y5)) ∧ (∀ y0 y1 y2 y3 y4, LeO (spec_l3Paths.j1 k y0 y1 y2 y3 y4) (spec_l3Paths.j1 (k + 1) y0 y1 y2 y3 y4)) ∧ (∀ y0 y1 y2 y3 y4 y5, LeO (spec_l3Paths.l0 k y0 y1 y2 y3 y4 y5) (spec_l3Paths.l0 (k + 1) y0 y1 y2 y3 y4 y5)) ∧ (∀ y0 y1 y2 y3 y4 y5 y6, LeO (spec_l3Paths.l1 k y0 y1 y2 y3 y4 y5 y6) (spec_l3Paths.l1 (k + 1) y0 y1 y2 y3 y4 y5 y6))
 | 0 => ⟨fun _ _ _ r h => by simp [spec_l3Paths.f] at h, fun _ _ _ _ _ _ r h => by simp [spec_l3Paths.j0] at h, fun _ _ _ _ _ r h => by simp [spec_l3Paths.j1] at h, fun _ _ _ _ _ _ r h => by simp [spec_l3Paths.l0] at h, fun _ _ _ _ _ _ _ r h => by simp [spec_l3Paths.l1] at h⟩
 | k + 1 => by
  obtain ⟨ih0, ih1, ih2, ih3, ih4⟩ := spec_l3Paths.mono_l k
  refine ⟨?_, ?_, ?_, ?_, ?_⟩
  ·intro y0 y1 y2
   unfold spec_l3Paths.f
   exact spec_l3Paths.mq
  ·intro y0 y1 y2 y3 y4 y5
   unfold spec_l3Paths.j0
   exact spec_l3Paths.mq
  ·intro y0 y1 y2 y3 y4
   unfold spec_l3Paths.j1
   exact spec_l3Paths.mq
  ·intro y0 y1 y2 y3 y4 y5
   unfold spec_l3Paths.l0
   exact spec_l3Paths.mq
  ·intro y0 y1 y2 y3 y4 y5 y6
   unfold spec_l3Paths.l1
   exact spec_l3Paths.mq
theorem spec_l3Paths.mono : ∀ a0 a1 a2 k, LeO (spec_l3Paths.f k a0 a1 a2) (spec_l3Paths.f (k + 1) a0 a1 a2) := by
 intro a0 a1 a2 k
 obtain ⟨ih0, ih1, ih2, ih3, ih4⟩ := spec_l3Paths.mono_l k
 exact ih0 a0 a1 a2
def spec_l3Paths.T3 : Bool × List (List Nat × List Nat) := (true, [([], []), ([0], [0]), ([1], [1]), ([2], [2]), ([3], [3]), ([4, 3], [3, 4]), ([3], [3]), ([5, 6, 3], [3, 5, 6]), ([7, 3], [3, 7]), ([3], [3]), ([9, 3], [3, 9]), ([10, 3], [3, 10]), ([8, 11, 3], [3, 8, 11]), ([12, 3], [3, 12]), ([13, 3], [3, 13]), ([3, 14], [3, 14])])
def spec_l3Paths.B3 : List Nat := [0, 1, 3, 7, 15, 31, 15, 127, 255, 15, 527, 1551, 4095, 8191, 16383, 32767]
theorem spec_l3Paths.tab3 : rtab .any (opsOf Try.f113 3) = spec_l3Paths.T3 := by kernel_rfl
theorem spec_l3Paths.bits3 : waitsOk spec_l3Paths.T3.2 spec_l3Paths.B3 = true := by kernel_rfl
def spec_l3Paths.T13 : Bool × List (List Nat × List Nat) := (true, [([], []), ([], []), ([], []), ([], []), ([2, 3], [2, 3]), ([], []), ([5], [5]), ([4, 6, 4], [4, 6]), ([1, 7, 7], [1, 7]), ([0, 8, 8], [0, 8]), ([9, 9, 0, 1, 2, 3, 4, 5, 6, 7, 8, 9], [0, 9])])
def spec_l3Paths.B13 : List Nat := [0, 0, 0, 0, 12, 0, 32, 124, 254, 511, 1023]
theorem spec_l3Paths.tab13 : rtab .any (opsOf Try.f113 13) = spec_l3Paths.T13 := by kernel_rfl
theorem spec_l3Paths.bits13 : waitsOk spec_l3Paths.T13.2 spec_l3Paths.B13 = true := by kernel_rfl
theorem cd {p : Prop} (h : p := by repeat (first | (with_reducible first | exact HB.out | apply below_alloc | apply pw_below_drewN | apply below_drew1 | refine below_set ?_ cx7.out) | exact HB.out)) : p := h
set_option maxHeartbeats 8000000 in
set_option maxRecDepth 100000 in
theorem spec_l3Paths.calls (k : Nat) : ∀ (ag : Option Addr) (ae : Nat) (ab : List Int) (ah : Option Addr) (af : Nat) (aa : List (List Int)) (A1 : Option Addr) (c1 : Nat) (l1 : List Int) (r : List (List Int)) (w : World) (dx : Kd.C (Kd.int .i64) w ag ab.length ab) (dy : ab.length ≤ ae) (dz : Kd.C (Kd.slice 3 (Kd.int .i64)) w ah aa.length aa) (d2 : aa.length ≤ af) (nr : Kd.C (Kd.int .i64) w A1 l1.length l1) (ns : l1.length ≤ c1) (h : spec_l3Paths.f k ab aa l1 = some r),
  Calls Try.prog 113 #[.agg #[.slice ag ab.length ae, .slice ah aa.length af], .slice A1 l1.length c1] w fun e w' => ∃ v0_ : Value, e = .returned (v0_) ∧ Kd.N (Kd.slice 3 (Kd.int .i64)) 22 w' w.heap.size (fun k_ => (w.heap.size ≤ k_)) v0_ r ∧ Below w.heap.size w w' := by
 induction k using Nat.strongRecOn with
 | _ k ih =>
 intro ag ae ab ah af aa A1 c1 l1 r w dx dy dz d2 nr ns h
 cases k with
 | zero => exact absurd h (by simp [spec_l3Paths.f])
 | succ k =>
 simp only [spec_l3Paths.f] at h
 have hu25 := Try.underlying25
 have dd := Aside0.mk dx
 have d6 := Aside0.mk dy
 clear dx dy
 have cq := Aside0.mk dz
 have d7 := Aside0.mk d2
 clear dz d2
 have ig := Aside0.mk nr
 have un := Aside0.mk ns
 clear nr ns
 have HB := Aside0.mk (Below.refl w.heap.size w)
 have H : ((some (([] : List (List Int)) : List (List Int))).bind fun j3 => (if 0 ≤ (wrap64 ((l1.length : Int) - 1)) then (if (wrap64 ((l1.length : Int) - 1)) < (l1.length : Int) then (if (l1.length : Int) > 1 then (if 0 ≤ (rd l1 (wrap64 ((l1.length : Int) - 1))) then (if (rd l1 (wrap64 ((l1.length : Int) - 1))) < (aa.length : Int) then (if 0 < (l1.length : Int) then (if 0 ≤ (rd l1 0) then (if (rd l1 0) < ((rd_L1 aa (rd l1 (wrap64 ((l1.length : Int) - 1)))).length : Int) then (spec_l3Paths.j0 k l1 j3 (rd l1 (wrap64 ((l1.length : Int) - 1))) (decide ((rd (rd_L1 aa (rd l1 (wrap64 ((l1.length : Int) - 1)))) (rd l1 0)) > 0)) ab aa) else (none)) else (none)) else (none)) else (none)) else (none)) else (spec_l3Paths.j0 k l1 j3 (rd l1 (wrap64 ((l1.length : Int) - 1))) false ab aa)) else (none)) else (none))) = some r := h
 clear h
 obtain ⟨j3, hy181⟩ : ∃ y_ : List (List Int), y_ = (([] : List (List Int))) := ⟨_, rfl⟩
 replace H : (if 0 ≤ (wrap64 ((l1.length : Int) - 1)) then (if (wrap64 ((l1.length : Int) - 1)) < (l1.length : Int) then (if (l1.length : Int) > 1 then (if 0 ≤ (rd l1 (wrap64 ((l1.length : Int) - 1))) then (if (rd l1 (wrap64 ((l1.length : Int) - 1))) < (aa.length : Int) then (if 0 < (l1.length : Int) then (if 0 ≤ (rd l1 0) then (if (rd l1 0) < ((rd_L1 aa (rd l1 (wrap64 ((l1.length : Int) - 1)))).length : Int) then (spec_l3Paths.j0 k l1 j3 (rd l1 (wrap64 ((l1.length : Int) - 1))) (decide ((rd (rd_L1 aa (rd l1 (wrap64 ((l1.length : Int) - 1)))) (rd l1 0)) > 0)) ab aa) else (none)) else (none)) else (none)) else (none)) else (none)) else (spec_l3Paths.j0 k l1 j3 (rd l1 (wrap64 ((l1.length : Int) - 1))) false ab aa)) else (none)) else (none)) = some r := by first | (rw [hy181]; with_reducible exact H) | (have H2_ := (Option.bind_some _ _).symm.trans H; rw [hy181]; with_reducible exact H2_) | (have H2_ := (Option.bind_some _ _).symm.trans H; with_reducible exact H2_) | with_reducible exact H | (rw [hy181]; exact H) | exact H
 have bj8 := Aside0.mk hy181
 clear hy181
 obtain ⟨ji3, hji3⟩ : ∃ j_ : Int, (wrap64 ((l1.length : Int) - 1)) = j_ := ⟨_, rfl⟩
 replace H : (if 0 ≤ (ji3) then (if (ji3) < (l1.length : Int) then (if (l1.length : Int) > 1 then (if 0 ≤ (rd l1 (ji3)) then (if (rd l1 (ji3)) < (aa.length : Int) then (if 0 < (l1.length : Int) then (if 0 ≤ (rd l1 0) then (if (rd l1 0) < ((rd_L1 aa (rd l1 (ji3))).length : Int) then (spec_l3Paths.j0 k l1 j3 (rd l1 (ji3)) (decide ((rd (rd_L1 aa (rd l1 (ji3))) (rd l1 0)) > 0)) ab aa) else (none)) else (none)) else (none)) else (none)) else (none)) else (spec_l3Paths.j0 k l1 j3 (rd l1 (ji3)) false ab aa)) else (none)) else (none)) = some r := by first | (rw [hji3] at H; exact H) | (simp only [hji3] at H ⊢; exact H)
 have hji3w : (IntKind.i64.wrap ((l1.length : Int) - 1)) = ji3 := (i64_w _).trans hji3
 obtain ⟨c4, H⟩ := pos_ H
 have og := decide_eq_true c4
 clear c4
 obtain ⟨c5, H⟩ := pos_ H
 have gr := decide_eq_true c5
 clear c5
 have HC6 := Aside0.mk H
 clear H
 go_enter Try.func113, Try.ntmps113
 go_upto_region 3 with (first | ((with_reducible refine gate_dst (N := 2) rfl ?_); refine bx_ (N := 2) #[.slice ag ab.length ae, .slice ah aa.length af] 25 ?_; intro cj hg w7 hbox hb; have az := Aside0.mk (hbox); have eh0 := Aside0.mk ((g63_ : w.heap.size ≤ cj)); have cx7 := Aside0.mk ((g63_ : w.heap.size ≤ cj)); replace HB := Aside0.mk (below_step (cd) hb); clear hb hbox hg) | ((with_reducible refine gate_dst (N := 9) rfl ?_); refine Kd.N_lit (Kd.slice 3 (Kd.int .i64)) _ 22 ?hg (N' := 9) ?hd (xs := ([] : List (List Int))) (inner := []) (ok := (fun k_ => (w.heap.size ≤ k_) ∧ k_ ≠ cj)) (okp := (fun k_ => (w.heap.size ≤ k_) ∧ k_ ≠ cj)) ?hr ?hp (fun _ hk => hk) ((show ∀ k_, w7.heap.size ≤ k_ → (fun k_ => (w.heap.size ≤ k_) ∧ k_ ≠ cj) k_ from fun k_ hk => ⟨(Nat.le_trans (below_size (cd)) hk), Kd.freshB (g := cj) (o := .cells #[.slice ag ab.length ae, .slice ah aa.length af] 25 (0, 0)) (uf0_ az) k_ hk⟩) _ (Nat.le_refl _)) (Below.refl _ _) (Nat.le_refl _) (by simp) ?_; (case hd => rfl); (case hg => rfl); (case hr => first | (go_simp; done) | (go_simp; rfl)); (case hp => exact (Reps.none _ _)); intro lp w8 mg hb hg_ hnew_; clear hg_ hnew_; (first | rw [← bj8.out] at mg | (simp only [Int.reduceToNat] at mg; rw [← bj8.out] at mg)); have vd := Aside0.mk (Kd.N_lower mg (below_size (cd))); replace az := bb_ az hb; replace HB := Aside0.mk (below_step (cd) hb); clear hb mg; have sa : 0 ≤ ((ji3) : Int) := of_decide_eq_true (g0_); have sb : (ji3) < (l1.length : Int) := of_decide_eq_true (g0_); obtain ⟨aj3, ca3, ve⟩ := Kd.at_int ig.out (ji3) sa sb; cases ca3; replace ve := cl_ HB ve; replace sa := eq_true sa; replace sb := eq_true sb)); (repeat ((first | go_step3 | rw [Exit.noGoto_normal] | rw [Exit.noGoto_exit] | rw [Exit.noGoto_ret]); go_upto_region 3 with (first | ((with_reducible refine gate_dst (N := 2) rfl ?_); refine bx_ (N := 2) #[.slice ag ab.length ae, .slice ah aa.length af] 25 ?_; intro cj hg w7 hbox hb; have az := Aside0.mk (hbox); have eh0 := Aside0.mk ((g63_ : w.heap.size ≤ cj)); have cx7 := Aside0.mk ((g63_ : w.heap.size ≤ cj)); replace HB := Aside0.mk (below_step (cd) hb); clear hb hbox hg) | ((with_reducible refine gate_dst (N := 9) rfl ?_); refine Kd.N_lit (Kd.slice 3 (Kd.int .i64)) _ 22 ?hg (N' := 9) ?hd (xs := ([] : List (List Int))) (inner := []) (ok := (fun k_ => (w.heap.size ≤ k_) ∧ k_ ≠ cj)) (okp := (fun k_ => (w.heap.size ≤ k_) ∧ k_ ≠ cj)) ?hr ?hp (fun _ hk => hk) ((show ∀ k_, w7.heap.size ≤ k_ → (fun k_ => (w.heap.size ≤ k_) ∧ k_ ≠ cj) k_ from fun k_ hk => ⟨(Nat.le_trans (below_size (cd)) hk), Kd.freshB (g := cj) (o := .cells #[.slice ag ab.length ae, .slice ah aa.length af] 25 (0, 0)) (uf0_ az) k_ hk⟩) _ (Nat.le_refl _)) (Below.refl _ _) (Nat.le_refl _) (by simp) ?_; (case hd => rfl); (case hg => rfl); (case hr => first | (go_simp; done) | (go_simp; rfl)); (case hp => exact (Reps.none _ _)); intro lp w8 mg hb hg_ hnew_; clear hg_ hnew_; (first | rw [← bj8.out] at mg | (simp only [Int.reduceToNat] at mg; rw [← bj8.out] at mg)); have vd := Aside0.mk (Kd.N_lower mg (below_size (cd))); replace az := bb_ az hb; replace HB := Aside0.mk (below_step (cd) hb); clear hb mg; have sa : 0 ≤ ((ji3) : Int) := of_decide_eq_true (g0_); have sb : (ji3) < (l1.length : Int) := of_decide_eq_true (g0_); obtain ⟨aj3, ca3, ve⟩ := Kd.at_int ig.out (ji3) sa sb; cases ca3; replace ve := cl_ HB ve; replace sa := eq_true sa; replace sb := eq_true sb))))
 (try simp only [Act.put, List.setIfInBounds_toArray, List.set_cons_zero, List.set_cons_succ])
 go_cut [31] (fun v31 wc => ∃ (kq : Nat) (bj9 : Bool), v31 = .bool bj9 ∧ Aside0 (spec_l3Paths.j0 kq l1 j3 (rd l1 (ji3)) bj9 ab aa = some r) ∧ Aside0 (kq ≤ k) ∧ Aside0 (Kd.N (Kd.slice 3 (Kd.int .i64)) 22 wc w.heap.size (fun k_ => (w.heap.size ≤ k_) ∧ k_ ≠ cj) lp j3) ∧ Aside0 (wc.heap[cj]? = some (.cells #[(.slice ag ab.length ae), (.slice ah aa.length af)] 25 (0, 0))) ∧ Aside0 (Below w.heap.size w wc))
 case first =>
  have H := HC6.out
  clear HC6
  by_cases fv : (l1.length : Int) > 1
  ·rw [if_pos fv] at H
   have ou := decide_eq_true fv
   have as5 : decide (1 < l1.length) = true := decide_eq_true (by omega)
   clear fv
   (first | rw [ou] | (simp only [i64_w, i32_w]; rw [ou]) | skip)
   obtain ⟨kn, H⟩ := pos_ H
   have yh := decide_eq_true kn
   clear kn
   obtain ⟨hx, H⟩ := pos_ H
   have ql := decide_eq_true hx
   clear hx
   obtain ⟨lm, H⟩ := pos_ H
   have aj4 := decide_eq_true lm
   have as6 : decide (0 < l1.length) = true := decide_eq_true (by omega)
   clear lm
   obtain ⟨e3, H⟩ := pos_ H
   have oo := decide_eq_true e3
   clear e3
   obtain ⟨ee, H⟩ := pos_ H
   have l9 := decide_eq_true ee
   clear ee
   have H' := Aside0.mk H
   clear H
   try go_wp2
   replace vd := Aside0.mk (Kd.N_drew vd.out)
   replace az := Aside0.mk (blk_drew az.out)
   replace HB := Aside0.mk (below_drew1 HB.out)
   have ab7 : 0 ≤ ((rd l1 (ji3)) : Int) := of_decide_eq_true (g0_)
   have ab8 : (rd l1 (ji3)) < (aa.length : Int) := of_decide_eq_true (g0_)
   obtain ⟨cx8, fu4, eh1, eh2, yi, cx9, cy0⟩ := at_L1 cq.out (rd l1 (ji3)) ab7 ab8
   have eh3 := yi
   cases eh2
   replace yi := cl_ HB yi
   have cy1 := Aside0.mk cy0
   have fu5 := Aside0.mk cx9
   clear cy0 cx9
   replace ab7 := eq_true ab7
   replace ab8 := eq_true ab8
   have ab9 : 0 ≤ (0 : Int) := (by omega)
   have ac0 : 0 < (l1.length : Int) := of_decide_eq_true (g0_)
   obtain ⟨eh4, eh5, tu⟩ := Kd.at_int ig.out 0 ab9 ac0
   have bk0 := tu
   (try rw [show ((0 : Int)).toNat = 0 from rfl] at bk0)
   (try rw [show 0 * 1 = 0 from rfl] at bk0)
   (try rw [Addr.add_zero'] at bk0)
   obtain rfl : aj3 = eh4 := (by injection eh5)
   have qi186 : (0 < l1.length) = True := eq_true (by omega)
   (try rw [show ((0 : Int)).toNat = 0 from rfl] at tu)
   (try rw [Addr.add_zero'] at tu)
   replace tu := cl_ HB tu
   replace ab9 := eq_true ab9
   replace ac0 := eq_true ac0
   have ac1 : 0 ≤ ((rd l1 0) : Int) := of_decide_eq_true (g0_)
   have ac2 : (rd l1 0) < ((rd_L1 aa (rd l1 (ji3))).length : Int) := of_decide_eq_true (g0_)
   obtain ⟨cy2, eh6, yj⟩ := Kd.at_int cy1.out (rd l1 0) ac1 ac2
   have eh7 := yj
   cases eh6
   replace yj := cl_ HB yj
   replace ac1 := eq_true ac1
   replace ac2 := eq_true ac2
   refine start_ (n := 16) (S := fun w' => w'.cell? ⟨cj, 0, none⟩ = some (.slice ag ab.length ae) ∧ w'.cell? ⟨cj, 1, none⟩ = some (.slice (some cx8) aa.length af) ∧ w'.cell? (cx8.add ((rd l1 (ji3))).toNat) = some (.slice (some cy2) (rd_L1 aa (rd l1 (ji3))).length eh1) ∧ w'.cell? aj3 = some (.int .i64 (rd l1 0)) ∧ w'.cell? (cy2.add ((rd l1 0)).toNat) = some (.int .i64 (rd (rd_L1 aa (rd l1 (ji3))) (rd l1 0)))) (ds := []) (tl_ 16 0) (g1_) rfl (g1_) ⟨(blk_cell az.out 0).trans rfl, (blk_cell az.out 1).trans rfl, ((cl_ HB eh3).trans rfl), ((cl_ HB bk0).trans rfl), ((cl_ HB eh7).trans rfl)⟩ (fun hHeld => ?_); refine with_tabW spec_l3Paths.tab3 spec_l3Paths.bits3 (fun HT_ HW_ => ?_)
   generalize w8.drew = fo at vd az HB cy1 yi tu yj hHeld ⊢
   refine pw_ 0 16 (tl_ 16 1) rfl rfl ?_
   refine pw_ 1 17 (tl_ 16 3) rfl rfl ?_
   refine pw_ 2 18 (tl_ 16 7) rfl rfl ?_
   refine pw_ 3 19 (tl_ 16 15) rfl rfl ?_
   refine pw_ 4 20 (tl_ 16 31) rfl rfl ?_
   refine pw_ 6 22 (tl_ 16 95) rfl rfl ?_
   refine pw_ 9 25 (tl_ 16 607) rfl rfl ?_
   refine pw_ 10 26 (tl_ 16 1631) rfl rfl ?_
   refine tk4_ 5 21 (tl_ 16 1663) rfl rfl hHeld ?_
   refine pw_ 7 23 (tl_ 16 1791) rfl rfl ?_
   refine tk4_ 8 24 (tl_ 16 2047) rfl rfl hHeld ?_
   refine tk4_ 11 27 (tl_ 16 4095) rfl rfl hHeld ?_
   refine pw_ 12 28 (tl_ 16 8191) rfl rfl ?_
   refine tk4_ 13 29 (tl_ 16 16383) rfl rfl hHeld ?_
   refine pw_ 14 30 (tl_ 16 32767) rfl rfl ?_
   refine pw_ 15 31 (tl_ 16 65535) rfl rfl ?_
   refine done_ (done_of HT_.out (g1_)) ?_
   try go_wp2
   go_meet
   case rel => exact ⟨_, (decide ((rd (rd_L1 aa (rd l1 (ji3))) (rd l1 0)) > 0)), (by first | rfl | (simp; done) | (simp only [← hji3] <;> (first | rfl | simp)) | (simp [*]; done)), H', ⟨g10_⟩, ⟨uf4_ vd⟩, ⟨uf0_ az⟩, ⟨cd⟩⟩
  ·rw [if_neg fv] at H
   have ou := decide_eq_false fv
   have as5 : decide (1 < l1.length) = false := decide_eq_false (by omega)
   clear fv
   (first | rw [ou] | (simp only [i64_w, i32_w]; rw [ou]) | skip)
   have H' := Aside0.mk H
   clear H
   try go_wp2
   replace vd := Aside0.mk (Kd.N_drew vd.out)
   replace az := Aside0.mk (blk_drew az.out)
   replace HB := Aside0.mk (below_drew1 HB.out)
   refine start_ (n := 16) (S := fun w' => True) (ds := []) (tl_ 16 0) (g1_) rfl (g1_) trivial (fun hHeld => ?_); refine with_tabW spec_l3Paths.tab3 spec_l3Paths.bits3 (fun HT_ HW_ => ?_)
   generalize w8.drew = h7 at vd az HB hHeld ⊢
   refine pw_ 0 16 (tl_ 16 1) rfl rfl ?_
   refine pw_ 1 17 (tl_ 16 3) rfl rfl ?_
   refine pw_ 2 18 (tl_ 16 7) rfl rfl ?_
   refine pw_ 3 19 (tl_ 16 15) rfl rfl ?_
   refine pu_ 4 20 (tl_ 16 31) rfl rfl ?_
   refine pu_ 5 21 (tl_ 16 63) rfl rfl ?_
   refine pu_ 6 22 (tl_ 16 127) rfl rfl ?_
   refine pu_ 7 23 (tl_ 16 255) rfl rfl ?_
   refine pu_ 8 24 (tl_ 16 511) rfl rfl ?_
   refine pu_ 9 25 (tl_ 16 1023) rfl rfl ?_
   refine pu_ 10 26 (tl_ 16 2047) rfl rfl ?_
   refine pu_ 11 27 (tl_ 16 4095) rfl rfl ?_
   refine pu_ 12 28 (tl_ 16 8191) rfl rfl ?_
   refine pu_ 13 29 (tl_ 16 16383) rfl rfl ?_
   refine pu_ 14 30 (tl_ 16 32767) rfl rfl ?_
   refine pw_ 15 31 (tl_ 16 65535) rfl rfl ?_
   refine done_ (done_of HT_.out (g1_)) ?_
   try go_wp2
   go_meet
   case rel => exact ⟨_, (false), (g3_), H', ⟨g10_⟩, ⟨uf4_ vd⟩, ⟨uf0_ az⟩, ⟨cd⟩⟩
 case rest =>
  clear HC6
  try clear c1
  try clear p1
  try clear q1
  try clear pb
  try clear qi1
  try clear p2
  try clear c4
  try clear og
  try clear c5
  try clear gr
  try clear p6
  try clear fv
  try clear ou
  try clear as5
  try clear kn
  try clear yh
  try clear hx
  try clear ql
  try clear lm
  try clear aj4
  try clear as6
  try clear e3
  try clear oo
  try clear ee
  try clear l9
  try clear ve
  try clear yi
  try clear tu
  try clear yj
  try clear sa
  try clear ab7
  try clear ab9
  try clear ac1
  try clear sb
  try clear ab8
  try clear ac0
  try clear ac2
  obtain ⟨kq, bj9, rfl, HA, HJ5, cw, az, HB⟩ := hcut
  cases kq with
  | zero => exact absurd HA.out (by simp [spec_l3Paths.j0])
  | succ kj5 =>
   have H := HA.out
   clear HA
   simp only [spec_l3Paths.j0] at H
   have ca4 := Aside0.mk H
   clear H
   go_upto_if 31 with (fail)
   go_cut [5] (fun v5 wc => ∃ (kq : Nat) (bk1 : List (List Int)), Aside0 (spec_l3Paths.j1 kq l1 bk1 (rd l1 (ji3)) ab aa = some r) ∧ Aside0 (kq ≤ kj5) ∧ Aside0 (Kd.N (Kd.slice 3 (Kd.int .i64)) 22 wc w.heap.size (fun k_ => (w.heap.size ≤ k_) ∧ k_ ≠ cj) v5 bk1) ∧ Aside0 (wc.heap[cj]? = some (.cells #[(.slice ag ab.length ae), (.slice ah aa.length af)] 25 (0, 0))) ∧ Aside0 (Below w.heap.size w wc))
   case first =>
    have H := ca4.out
    clear ca4
    by_cases dl : bj9 = true
    ·subst dl
     replace H := ifp_ H
     obtain ⟨yg, hy188⟩ : ∃ y_ : List Int, y_ = (([] : List Int)) := ⟨_, rfl⟩
     replace H : (if yg.length + l1.length < 17592186044416 then ((some (([(yg ++ l1)] : List (List Int)) : List (List Int))).bind fun os => (if j3.length + os.length < 5864062014805 then (spec_l3Paths.j1 kj5 l1 (j3 ++ os) (rd l1 (ji3)) ab aa) else (none))) else (none)) = some r := by first | (rw [hy188]; with_reducible exact H) | (have H2_ := (Option.bind_some _ _).symm.trans H; rw [hy188]; with_reducible exact H2_) | (have H2_ := (Option.bind_some _ _).symm.trans H; with_reducible exact H2_) | with_reducible exact H | (rw [hy188]; exact H) | exact H
     have bk2 := Aside0.mk hy188
     clear hy188
     obtain ⟨ir, H⟩ := pos_ H
     have cy3 := Aside0.mk ir
     clear ir
     obtain ⟨tv, hy191⟩ : ∃ y_ : List Int, y_ = (yg ++ l1) := ⟨_, rfl⟩
     replace H : ((some (([tv] : List (List Int)) : List (List Int))).bind fun os => (if j3.length + os.length < 5864062014805 then (spec_l3Paths.j1 kj5 l1 (j3 ++ os) (rd l1 (ji3)) ab aa) else (none))) = some r := by first | (rw [hy191]; with_reducible exact H) | (have H2_ := (Option.bind_some _ _).symm.trans H; rw [hy191]; with_reducible exact H2_) | (have H2_ := (Option.bind_some _ _).symm.trans H; with_reducible exact H2_) | with_reducible exact H | (rw [hy191]; exact H) | exact H
     have cy4 := Aside0.mk hy191
     clear hy191
     obtain ⟨os, hy194⟩ : ∃ y_ : List (List Int), y_ = (([tv] : List (List Int))) := ⟨_, rfl⟩
     replace H : (if j3.length + os.length < 5864062014805 then (spec_l3Paths.j1 kj5 l1 (j3 ++ os) (rd l1 (ji3)) ab aa) else (none)) = some r := by first | (rw [hy194]; with_reducible exact H) | (have H2_ := (Option.bind_some _ _).symm.trans H; rw [hy194]; with_reducible exact H2_) | (have H2_ := (Option.bind_some _ _).symm.trans H; with_reducible exact H2_) | with_reducible exact H | (rw [hy194]; exact H) | exact H
     have bk3 := Aside0.mk hy194
     clear hy194
     obtain ⟨ip, H⟩ := pos_ H
     have cy5 := Aside0.mk ip
     clear ip
     obtain ⟨cy6, hy197⟩ : ∃ y_ : List (List Int), y_ = (j3 ++ os) := ⟨_, rfl⟩
     replace H : (spec_l3Paths.j1 kj5 l1 cy6 (rd l1 (ji3)) ab aa) = some r := by first | (rw [hy197]; with_reducible exact H) | (have H2_ := (Option.bind_some _ _).symm.trans H; rw [hy197]; with_reducible exact H2_) | (have H2_ := (Option.bind_some _ _).symm.trans H; with_reducible exact H2_) | with_reducible exact H | (rw [hy197]; exact H) | exact H
     have cy7 := Aside0.mk hy197
     clear hy197
     have H' := Aside0.mk H
     clear H
     go_wp2_with (first | ((with_reducible refine gate_dst (N := 33) rfl ?_); refine Kd.R_lit (Kd.int .i64) _ 3 ?hg (N := 33) ?hd (xs := ([] : List Int)) (inner := []) (ok := fun _ => True) (okp := fun _ => True) ?hr ?hp (fun _ hk => hk) trivial (Below.refl _ _) (Nat.le_refl _) (by simp) ?_; (case hd => rfl); (case hg => rfl); (case hr => first | (go_simp; done) | (go_simp; rfl)); (case hp => exact (Reps.none _ _)); intro ca5 qp pm hb hg_ hnew_; clear hg_ hnew_; (first | rw [← bk2.out] at pm | (simp only [Int.reduceToNat] at pm; rw [← bk2.out] at pm)); replace cw := Aside0.mk (Kd.N_elder' (uf4_ cw) (Kd.R_base pm) hb); have ac3 := Aside0.mk (Kd.R_lower (Kd.R_newM (M := fun k_ => (w.heap.size ≤ k_)) pm (below_size (cd)) (fun k_ h_ => h_)) (below_size (cd))); replace az := bb_ az hb; replace HB := Aside0.mk (below_step (cd) hb); clear hb pm) | ((with_reducible refine gate_builtin (b := .append) (xs := #[.tmp 33, .tmp 34]) rfl ?_); at_builtin; refine Kd.R_append_rows (Kd.int .i64) (w0 := w) w.heap.size rfl (.tmp 33) (.tmp 34) 22 3 (.int .i64 0) 8 rfl Try.underlying22 info3 rfl (by decide) (by omega) ca5 yg l1 _ _ _ (fun k_ => (w.heap.size ≤ k_)) (fun _ => False) rfl rfl ?aO ?aR (fun _ _ h => h) (fun _ h => h.elim) ?aF ?aB ?aS ?aL ?_; (case aR => exact uf1_ ig); (case aB => exact (cd)); (case aF => exact (fun k_ hk => (Nat.le_trans (below_size (cd)) hk))); (case aO => exact (by (with_reducible repeat (first | apply Kd.R_alloc | apply Kd.R_drewN | apply Kd.R_drew)); exact Kd.R_mono ac3.out (fun _ hk => hk.1))); (case aS => exact (below_size (cd))); (case aL => have := cy3.out; omega); intro eh8 w24 ho hb hg hat; rw [← cy4.out] at ho; replace cw := Aside0.mk (Kd.N_afterv (ok := (fun k_ => (w.heap.size ≤ k_) ∧ k_ ≠ cj)) (uf4_ cw) hg hat); replace az := Aside0.mk (blk_grown (g := cj) (o := .cells #[.slice ag ab.length ae, .slice ah aa.length af] 25 (0, 0)) (uf0_ az) hg (Kd.R_ne ac3.out az.out (by decide))); replace HB := Aside0.mk (hb); have vf := Aside0.mk (ho); clear ac3; clear ho hb hg hat; obtain ⟨lh, k7, yb⟩ := Kd.R_slice vf.out; subst yb) | ((with_reducible refine gate_dst (N := 36) rfl ?_); refine Kd.N_lit (Kd.slice 3 (Kd.int .i64)) _ 22 ?hg (N' := 36) ?hd (xs := ([tv] : List (List Int))) (inner := [.slice lh tv.length k7]) (ok := (fun k_ => (w.heap.size ≤ k_) ∧ some k_ ≠ (lp : Value).ownBlock ∧ k_ ≠ cj)) (okp := (fun k_ => (w.heap.size ≤ k_) ∧ some k_ ≠ (lp : Value).ownBlock ∧ k_ ≠ cj)) ?hr ?hp (fun _ hk => hk) ((show ∀ k_, w24.heap.size ≤ k_ → (fun k_ => (w.heap.size ≤ k_) ∧ some k_ ≠ (lp : Value).ownBlock ∧ k_ ≠ cj) k_ from fun k_ hk => ⟨(Nat.le_trans (below_size (cd)) hk), Kd.fresh' (Kd.N_lt (uf4_ cw)) k_ hk, Kd.freshB (g := cj) (o := .cells #[.slice ag ab.length ae, .slice ah aa.length af] 25 (0, 0)) (uf0_ az) k_ hk⟩) _ (Nat.le_refl _)) (Below.refl _ _) (Nat.le_refl _) (by simp) ?_; (case hd => rfl); (case hg => rfl); (case hr => first | (go_simp; done) | (go_simp; rfl)); (case hp => exact (Reps.one (show Kd.FK (Kd.slice 3 (Kd.int .i64)) _ _ tv [.slice lh tv.length k7] from (Kd.FK_slice_mk (Kd.R_reads' (Kd.R_mono (ok' := (fun k_ => (w.heap.size ≤ k_) ∧ some k_ ≠ (lp : Value).ownBlock ∧ k_ ≠ cj)) (Kd.R_types (Kd.R_apart' (vf.out) (Kd.N_typed cw.out) (by decide)) az.out (by decide)) (fun k_ hk => ⟨hk.1.1, ⟨hk.1.2, hk.2⟩⟩))).2.1 (Kd.R_F (Kd.R_mono (ok' := (fun k_ => (w.heap.size ≤ k_) ∧ some k_ ≠ (lp : Value).ownBlock ∧ k_ ≠ cj)) (Kd.R_types (Kd.R_apart' (vf.out) (Kd.N_typed cw.out) (by decide)) az.out (by decide)) (fun k_ hk => ⟨hk.1.1, ⟨hk.1.2, hk.2⟩⟩))))) (Reps.none _ _))); intro eh9 w26 ko hb hg_ hnew_; clear hg_ hnew_; (first | rw [← bk3.out] at ko | (simp only [Int.reduceToNat] at ko; rw [← bk3.out] at ko)); replace cw := Aside0.mk (Kd.N_elder' (uf4_ cw) (Kd.N_base ko) hb); have vg := Aside0.mk (Kd.N_lower ko (below_size (cd))); replace az := bb_ az hb; replace HB := Aside0.mk (below_step (cd) hb); clear vf; clear hb ko; obtain ⟨ei0, ei1, ca6⟩ := Kd.N_slice vg.out; subst ca6) | ((with_reducible refine gate_builtin (b := .append) (xs := #[.tmp 32, .tmp 36]) rfl ?_); at_builtin; refine Kd.N_append_rows (Kd.slice 3 (Kd.int .i64)) (w0 := w) w.heap.size rfl (.tmp 32) (.tmp 36) 23 22 (.slice none 0 0) 24 rfl Try.underlying23 info22 rfl (by decide) (by omega) lp j3 os _ _ _ (fun k_ => (w.heap.size ≤ k_) ∧ k_ ≠ cj) (fun k_ => ((fun k_ => (w.heap.size ≤ k_) ∧ k_ ≠ cj)) k_ ∧ some k_ ≠ (lp : Value).ownBlock) rfl rfl ?aO ?aR (fun _ hk => hk) ?aF ?aB ?aS ?aL ?_; (case aR => exact (by skip; exact Kd.N_F (Kd.N_mono (ok' := (fun k_ => ((fun k_ => (w.heap.size ≤ k_) ∧ k_ ≠ cj)) k_ ∧ some k_ ≠ (lp : Value).ownBlock)) (vg.out) (fun k_ hk => ⟨⟨hk.1, hk.2.2⟩, hk.2.1⟩)))); (case aB => exact (cd)); (case aF => exact (fun k_ hk => ⟨(Nat.le_trans (below_size (cd)) hk), Kd.freshB (g := cj) (o := .cells #[.slice ag ab.length ae, .slice ah aa.length af] 25 (0, 0)) (uf0_ az) k_ hk⟩)); (case aO => exact (by (with_reducible repeat (first | apply Kd.N_alloc | apply Kd.N_drewN | apply Kd.N_drew)); exact Kd.N_mono cw.out (fun _ hk => ⟨hk.1.1.1, hk.1.1.2⟩))); (case aS => exact (below_size (cd))); (case aL => have := cy5.out; omega); intro ei2 w28 ho hb hg hat; rw [← cy7.out] at ho; replace az := Aside0.mk (blk_grown (g := cj) (o := .cells #[.slice ag ab.length ae, .slice ah aa.length af] 25 (0, 0)) (uf0_ az) hg (Kd.N_ne cw.out az.out (by decide))); replace vg := Aside0.mk (Kd.N_afterv (ok := (fun k_ => (w.heap.size ≤ k_) ∧ k_ ≠ cj)) (by (with_reducible repeat (first | apply Kd.N_alloc | apply Kd.N_drewN | apply Kd.N_drew)); exact Kd.N_mono vg.out (fun _ hk => ⟨⟨hk.1, hk.2.2⟩, hk.2.1⟩)) hg hat); replace HB := Aside0.mk (hb); have cy8 := Aside0.mk (ho); clear cw; clear ho hb hg hat)); (repeat ((first | go_step3 | rw [Exit.noGoto_normal] | rw [Exit.noGoto_exit] | rw [Exit.noGoto_ret]); go_wp2_with (first | ((with_reducible refine gate_dst (N := 33) rfl ?_); refine Kd.R_lit (Kd.int .i64) _ 3 ?hg (N := 33) ?hd (xs := ([] : List Int)) (inner := []) (ok := fun _ => True) (okp := fun _ => True) ?hr ?hp (fun _ hk => hk) trivial (Below.refl _ _) (Nat.le_refl _) (by simp) ?_; (case hd => rfl); (case hg => rfl); (case hr => first | (go_simp; done) | (go_simp; rfl)); (case hp => exact (Reps.none _ _)); intro ca5 qp pm hb hg_ hnew_; clear hg_ hnew_; (first | rw [← bk2.out] at pm | (simp only [Int.reduceToNat] at pm; rw [← bk2.out] at pm)); replace cw := Aside0.mk (Kd.N_elder' (uf4_ cw) (Kd.R_base pm) hb); have ac3 := Aside0.mk (Kd.R_lower (Kd.R_newM (M := fun k_ => (w.heap.size ≤ k_)) pm (below_size (cd)) (fun k_ h_ => h_)) (below_size (cd))); replace az := bb_ az hb; replace HB := Aside0.mk (below_step (cd) hb); clear hb pm) | ((with_reducible refine gate_builtin (b := .append) (xs := #[.tmp 33, .tmp 34]) rfl ?_); at_builtin; refine Kd.R_append_rows (Kd.int .i64) (w0 := w) w.heap.size rfl (.tmp 33) (.tmp 34) 22 3 (.int .i64 0) 8 rfl Try.underlying22 info3 rfl (by decide) (by omega) ca5 yg l1 _ _ _ (fun k_ => (w.heap.size ≤ k_)) (fun _ => False) rfl rfl ?aO ?aR (fun _ _ h => h) (fun _ h => h.elim) ?aF ?aB ?aS ?aL ?_; (case aR => exact uf1_ ig); (case aB => exact (cd)); (case aF => exact (fun k_ hk => (Nat.le_trans (below_size (cd)) hk))); (case aO => exact (by (with_reducible repeat (first | apply Kd.R_alloc | apply Kd.R_drewN | apply Kd.R_drew)); exact Kd.R_mono ac3.out (fun _ hk => hk.1))); (case aS => exact (below_size (cd))); (case aL => have := cy3.out; omega); intro eh8 w24 ho hb hg hat; rw [← cy4.out] at ho; replace cw := Aside0.mk (Kd.N_afterv (ok := (fun k_ => (w.heap.size ≤ k_) ∧ k_ ≠ cj)) (uf4_ cw) hg hat); replace az := Aside0.mk (blk_grown (g := cj) (o := .cells #[.slice ag ab.length ae, .slice ah aa.length af] 25 (0, 0)) (uf0_ az) hg (Kd.R_ne ac3.out az.out (by decide))); replace HB := Aside0.mk (hb); have vf := Aside0.mk (ho); clear ac3; clear ho hb hg hat; obtain ⟨lh, k7, yb⟩ := Kd.R_slice vf.out; subst yb) | ((with_reducible refine gate_dst (N := 36) rfl ?_); refine Kd.N_lit (Kd.slice 3 (Kd.int .i64)) _ 22 ?hg (N' := 36) ?hd (xs := ([tv] : List (List Int))) (inner := [.slice lh tv.length k7]) (ok := (fun k_ => (w.heap.size ≤ k_) ∧ some k_ ≠ (lp : Value).ownBlock ∧ k_ ≠ cj)) (okp := (fun k_ => (w.heap.size ≤ k_) ∧ some k_ ≠ (lp : Value).ownBlock ∧ k_ ≠ cj)) ?hr ?hp (fun _ hk => hk) ((show ∀ k_, w24.heap.size ≤ k_ → (fun k_ => (w.heap.size ≤ k_) ∧ some k_ ≠ (lp : Value).ownBlock ∧ k_ ≠ cj) k_ from fun k_ hk => ⟨(Nat.le_trans (below_size (cd)) hk), Kd.fresh' (Kd.N_lt (uf4_ cw)) k_ hk, Kd.freshB (g := cj) (o := .cells #[.slice ag ab.length ae, .slice ah aa.length af] 25 (0, 0)) (uf0_ az) k_ hk⟩) _ (Nat.le_refl _)) (Below.refl _ _) (Nat.le_refl _) (by simp) ?_; (case hd => rfl); (case hg => rfl); (case hr => first | (go_simp; done) | (go_simp; rfl)); (case hp => exact (Reps.one (show Kd.FK (Kd.slice 3 (Kd.int .i64)) _ _ tv [.slice lh tv.length k7] from (Kd.FK_slice_mk (Kd.R_reads' (Kd.R_mono (ok' := (fun k_ => (w.heap.size ≤ k_) ∧ some k_ ≠ (lp : Value).ownBlock ∧ k_ ≠ cj)) (Kd.R_types (Kd.R_apart' (vf.out) (Kd.N_typed cw.out) (by decide)) az.out (by decide)) (fun k_ hk => ⟨hk.1.1, ⟨hk.1.2, hk.2⟩⟩))).2.1 (Kd.R_F (Kd.R_mono (ok' := (fun k_ => (w.heap.size ≤ k_) ∧ some k_ ≠ (lp : Value).ownBlock ∧ k_ ≠ cj)) (Kd.R_types (Kd.R_apart' (vf.out) (Kd.N_typed cw.out) (by decide)) az.out (by decide)) (fun k_ hk => ⟨hk.1.1, ⟨hk.1.2, hk.2⟩⟩))))) (Reps.none _ _))); intro eh9 w26 ko hb hg_ hnew_; clear hg_ hnew_; (first | rw [← bk3.out] at ko | (simp only [Int.reduceToNat] at ko; rw [← bk3.out] at ko)); replace cw := Aside0.mk (Kd.N_elder' (uf4_ cw) (Kd.N_base ko) hb); have vg := Aside0.mk (Kd.N_lower ko (below_size (cd))); replace az := bb_ az hb; replace HB := Aside0.mk (below_step (cd) hb); clear vf; clear hb ko; obtain ⟨ei0, ei1, ca6⟩ := Kd.N_slice vg.out; subst ca6) | ((with_reducible refine gate_builtin (b := .append) (xs := #[.tmp 32, .tmp 36]) rfl ?_); at_builtin; refine Kd.N_append_rows (Kd.slice 3 (Kd.int .i64)) (w0 := w) w.heap.size rfl (.tmp 32) (.tmp 36) 23 22 (.slice none 0 0) 24 rfl Try.underlying23 info22 rfl (by decide) (by omega) lp j3 os _ _ _ (fun k_ => (w.heap.size ≤ k_) ∧ k_ ≠ cj) (fun k_ => ((fun k_ => (w.heap.size ≤ k_) ∧ k_ ≠ cj)) k_ ∧ some k_ ≠ (lp : Value).ownBlock) rfl rfl ?aO ?aR (fun _ hk => hk) ?aF ?aB ?aS ?aL ?_; (case aR => exact (by skip; exact Kd.N_F (Kd.N_mono (ok' := (fun k_ => ((fun k_ => (w.heap.size ≤ k_) ∧ k_ ≠ cj)) k_ ∧ some k_ ≠ (lp : Value).ownBlock)) (vg.out) (fun k_ hk => ⟨⟨hk.1, hk.2.2⟩, hk.2.1⟩)))); (case aB => exact (cd)); (case aF => exact (fun k_ hk => ⟨(Nat.le_trans (below_size (cd)) hk), Kd.freshB (g := cj) (o := .cells #[.slice ag ab.length ae, .slice ah aa.length af] 25 (0, 0)) (uf0_ az) k_ hk⟩)); (case aO => exact (by (with_reducible repeat (first | apply Kd.N_alloc | apply Kd.N_drewN | apply Kd.N_drew)); exact Kd.N_mono cw.out (fun _ hk => ⟨hk.1.1.1, hk.1.1.2⟩))); (case aS => exact (below_size (cd))); (case aL => have := cy5.out; omega); intro ei2 w28 ho hb hg hat; rw [← cy7.out] at ho; replace az := Aside0.mk (blk_grown (g := cj) (o := .cells #[.slice ag ab.length ae, .slice ah aa.length af] 25 (0, 0)) (uf0_ az) hg (Kd.N_ne cw.out az.out (by decide))); replace vg := Aside0.mk (Kd.N_afterv (ok := (fun k_ => (w.heap.size ≤ k_) ∧ k_ ≠ cj)) (by (with_reducible repeat (first | apply Kd.N_alloc | apply Kd.N_drewN | apply Kd.N_drew)); exact Kd.N_mono vg.out (fun _ hk => ⟨⟨hk.1, hk.2.2⟩, hk.2.1⟩)) hg hat); replace HB := Aside0.mk (hb); have cy8 := Aside0.mk (ho); clear cw; clear ho hb hg hat))))
     go_meet
     case rel => exact ⟨_, (cy6), H', ⟨by have := HJ5.out; first | omega | exact Nat.le_refl _⟩, ⟨uf4_ cy8⟩, ⟨uf0_ az⟩, ⟨cd⟩⟩
    ·replace dl := Bool.eq_false_iff.mpr dl
     subst dl
     replace H := ifn_ H
     have H' := Aside0.mk H
     clear H
     go_wp2; (repeat ((first | go_step3 | rw [Exit.noGoto_normal] | rw [Exit.noGoto_exit] | rw [Exit.noGoto_ret]); go_wp2))
     go_meet
     case rel => exact ⟨_, (j3), H', ⟨by have := HJ5.out; first | omega | exact Nat.le_refl _⟩, ⟨uf4_ cw⟩, ⟨uf0_ az⟩, ⟨cd⟩⟩
   case rest =>
    clear ca4
    try clear c1
    try clear p1
    try clear q1
    try clear pb
    try clear qi1
    try clear c2
    try clear p2
    try clear c4
    try clear og
    try clear c5
    try clear gr
    try clear p6
    try clear fv
    try clear ou
    try clear as5
    try clear kn
    try clear yh
    try clear hx
    try clear ql
    try clear lm
    try clear aj4
    try clear as6
    try clear e3
    try clear oo
    try clear ee
    try clear l9
    try clear fu
    try clear p18
    try clear q18
    try clear cy9
    try clear qi18
    try clear dl
    try clear ir
    try clear ip
    try clear ve
    try clear yi
    try clear tu
    try clear yj
    try clear p1
    try clear sa
    try clear ab7
    try clear ab9
    try clear ac1
    try clear p2
    try clear p6
    try clear q1
    try clear sb
    try clear ab8
    try clear ac0
    try clear ac2
    obtain ⟨kq, bk1, HA, HJ17, cw, az, HB⟩ := hcut
    cases kq with
    | zero => exact absurd HA.out (by simp [spec_l3Paths.j1])
    | succ kj17 =>
     have H := HA.out
     clear HA
     simp only [spec_l3Paths.j1] at H
     obtain ⟨m8, H⟩ := pos_ H
     have as3 := decide_eq_true m8
     have ca7 : decide (0 < l1.length) = true := decide_eq_true (by omega)
     clear m8
     have H' := Aside0.mk H
     clear H
     have as7 : 0 ≤ (0 : Int) := (by omega)
     have as8 : 0 < (l1.length : Int) := of_decide_eq_true (g0_)
     obtain ⟨ei3, ei4, aj5⟩ := Kd.at_int ig.out 0 as7 as8
     obtain rfl : aj3 = ei3 := (by injection ei4)
     have qi200 : (0 < l1.length) = True := eq_true (by omega)
     (try rw [show ((0 : Int)).toNat = 0 from rfl] at aj5)
     (try rw [Addr.add_zero'] at aj5)
     replace aj5 := cl_ HB aj5
     replace as7 := eq_true as7
     replace as8 := eq_true as8
     go_wp2; (repeat ((first | go_step3 | rw [Exit.noGoto_normal] | rw [Exit.noGoto_exit] | rw [Exit.noGoto_ret]); go_wp2))
     go_loopg [5, 7] kj17 (fun kq v5 v7 w' => ∃ (i8 : List (List Int)) (eu : Int), v7 = .int .i64 eu ∧ Aside0 (spec_l3Paths.l0 kq l1 i8 (rd l1 (ji3)) eu ab aa = some r) ∧ Aside0 (kq ≤ kj17) ∧ Aside0 (Kd.N (Kd.slice 3 (Kd.int .i64)) 22 w' w.heap.size (fun k_ => (w.heap.size ≤ k_) ∧ k_ ≠ cj) v5 i8) ∧ Aside0 (w'.heap[cj]? = some (.cells #[(.slice ag ab.length ae), (.slice ah aa.length af)] 25 (0, 0))) ∧ Aside0 (Below w.heap.size w w'))
     case atStart => exact ⟨(bk1), (wrap64 ((rd l1 0) + 1)), (g3_), H', ⟨Nat.le_refl _⟩, ⟨uf4_ cw⟩, ⟨uf0_ az⟩, ⟨cd⟩⟩
     case round =>
      clear H'
      try clear c1
      try clear p1
      try clear q1
      try clear pb
      try clear qi1
      try clear c2
      try clear p2
      try clear q2
      try clear hx2
      try clear qi2
      try clear c3
      try clear c4
      try clear og
      try clear c5
      try clear gr
      try clear p6
      try clear fv
      try clear ou
      try clear as5
      try clear kn
      try clear yh
      try clear hx
      try clear ql
      try clear lm
      try clear aj4
      try clear as6
      try clear e3
      try clear oo
      try clear ee
      try clear l9
      try clear fu
      try clear p18
      try clear q18
      try clear cy9
      try clear qi18
      try clear dl
      try clear ir
      try clear p20
      try clear q20
      try clear ei5
      try clear qi20
      try clear ip
      try clear m8
      try clear as3
      try clear ca7
      try clear ve
      try clear yi
      try clear tu
      try clear yj
      try clear aj5
      try clear p1
      try clear p18
      try clear sa
      try clear ab7
      try clear ab9
      try clear ac1
      try clear p2
      try clear as7
      try clear p6
      try clear q1
      try clear q18
      try clear sb
      try clear ab8
      try clear ac0
      try clear ac2
      try clear as8
      obtain ⟨i8, eu, rfl, HA, HK3, cw, az, HB⟩ := hrel
      cases gk with
      | zero => exact absurd HA.out (by simp [spec_l3Paths.l0])
      | succ k3 =>
       have H := HA.out
       clear HA
       simp only [spec_l3Paths.l0] at H
       by_cases jp : eu < (ab.length : Int)
       ·rw [if_pos jp] at H
        have qu := decide_eq_true jp
        clear jp
        obtain ⟨ov, H⟩ := pos_ H
        have cz0 := decide_eq_true ov
        clear ov
        obtain ⟨qv, H⟩ := pos_ H
        have by1 := decide_eq_true qv
        clear qv
        obtain ⟨li, H⟩ := pos_ H
        have as4 := decide_eq_true li
        clear li
        obtain ⟨m9, H⟩ := pos_ H
        have bk4 := decide_eq_true m9
        clear m9
        by_cases jq : (rd (rd_L1 aa (rd l1 (ji3))) eu) = 0
        ·rw [if_pos jq] at H
         have ca8 : ((rd (rd_L1 aa (rd l1 (ji3))) eu) == 0) = true := beq_iff_eq.mpr jq
         have cz1 : ((rd (rd_L1 aa (rd l1 (ji3))) eu) != 0) = false := bne_eq_false_iff_eq.mpr jq
         clear jq
         have H' := Aside0.mk H
         clear H
         obtain ⟨cz2, cz3, cz4, cz5⟩ := blk2_ az
         have yk : 0 ≤ ((rd l1 (ji3)) : Int) := of_decide_eq_true (g0_)
         have yl : (rd l1 (ji3)) < (aa.length : Int) := of_decide_eq_true (g0_)
         obtain ⟨nx, ei6, ei7, ca9, aj6, as9, at0⟩ := at_L1 cq.out (rd l1 (ji3)) yk yl
         cases ca9
         replace aj6 := cl_ HB aj6
         have cb0 := Aside0.mk at0
         have ei8 := Aside0.mk as9
         clear at0 as9
         replace yk := eq_true yk
         replace yl := eq_true yl
         have ym : 0 ≤ (eu : Int) := of_decide_eq_true (g0_)
         have yn : eu < ((rd_L1 aa (rd l1 (ji3))).length : Int) := of_decide_eq_true (g0_)
         obtain ⟨ei9, cb1, aj7⟩ := Kd.at_int cb0.out eu ym yn
         cases cb1
         replace aj7 := cl_ HB aj7
         replace ym := eq_true ym
         replace yn := eq_true yn
         go_wp2; (repeat ((first | go_step3 | rw [Exit.noGoto_normal] | rw [Exit.noGoto_exit] | rw [Exit.noGoto_ret]); go_wp2))
         go_roundg k3
         case measure => have := HJ5.out; have := HJ17.out; have := HK3.out; omega
         case rel => exact ⟨(i8), (wrap64 (eu + 1)), (g3_), H', ⟨by have := HJ5.out; have := HJ17.out; have := HK3.out; omega⟩, ⟨uf4_ cw⟩, ⟨uf0_ az⟩, ⟨cd⟩⟩
        ·rw [if_neg jq] at H
         have ca8 : ((rd (rd_L1 aa (rd l1 (ji3))) eu) == 0) = false := beq_eq_false_iff_ne.mpr jq
         have cz1 : ((rd (rd_L1 aa (rd l1 (ji3))) eu) != 0) = true := bne_iff_ne.mpr jq
         have H' := Aside0.mk H
         clear H
         obtain ⟨at1, at2, at3, at4⟩ := blk2_ az
         have yk : 0 ≤ ((rd l1 (ji3)) : Int) := of_decide_eq_true (g0_)
         have yl : (rd l1 (ji3)) < (aa.length : Int) := of_decide_eq_true (g0_)
         obtain ⟨nx, ei6, ei7, ca9, aj6, as9, at0⟩ := at_L1 cq.out (rd l1 (ji3)) yk yl
         cases ca9
         replace aj6 := cl_ HB aj6
         have cb0 := Aside0.mk at0
         have ei8 := Aside0.mk as9
         clear at0 as9
         replace yk := eq_true yk
         replace yl := eq_true yl
         have ym : 0 ≤ (eu : Int) := of_decide_eq_true (g0_)
         have yn : eu < ((rd_L1 aa (rd l1 (ji3))).length : Int) := of_decide_eq_true (g0_)
         obtain ⟨ei9, cb1, aj7⟩ := Kd.at_int cb0.out eu ym yn
         cases cb1
         replace aj7 := cl_ HB aj7
         replace ym := eq_true ym
         replace yn := eq_true yn
         go_wp2; (repeat ((first | go_step3 | rw [Exit.noGoto_normal] | rw [Exit.noGoto_exit] | rw [Exit.noGoto_ret]); go_wp2))
         go_loopg [8] k3 (fun kq v8 w' => ∃ (na : Int), v8 = .int .i64 na ∧ Aside0 (spec_l3Paths.l1 kq l1 i8 (rd l1 (ji3)) eu na ab aa = some r) ∧ Aside0 (kq ≤ k3) ∧ Aside0 (Kd.N (Kd.slice 3 (Kd.int .i64)) 22 w' w.heap.size (fun k_ => (w.heap.size ≤ k_) ∧ k_ ≠ cj) u5 i8) ∧ Aside0 (w'.heap[cj]? = some (.cells #[(.slice ag ab.length ae), (.slice (some nx) aa.length af)] 25 (0, 0))) ∧ Aside0 (Below w.heap.size w w'))
         case atStart => exact ⟨(0), (g3_), H', ⟨Nat.le_refl _⟩, ⟨uf4_ cw⟩, ⟨uf0_ az⟩, ⟨cd⟩⟩
         case round =>
          clear H'
          (try clear c1); (try clear p1); (try clear q1); (try clear pb); (try clear qi1); (try clear c2); (try clear p2); (try clear q2); (try clear hx2); (try clear qi2); (try clear c3); (try clear c4); (try clear og); (try clear c5); (try clear gr); (try clear p6); (try clear fv); (try clear ou); (try clear as5); (try clear kn); (try clear yh); (try clear hx); (try clear ql); (try clear lm); (try clear aj4); (try clear as6); (try clear e3); (try clear oo); (try clear ee); (try clear l9); (try clear fu); (try clear p18); (try clear q18); (try clear cy9); (try clear qi18); (try clear dl); (try clear ir); (try clear p20); (try clear q20); (try clear ei5); (try clear qi20); (try clear ip); (try clear m8); (try clear as3); (try clear ca7); (try clear jp); (try clear qu); (try clear ov); (try clear cz0); (try clear qv); (try clear by1); (try clear li); (try clear as4); (try clear m9); (try clear bk4); (try clear jq); (try clear ca8); (try clear cz1); (try clear cz2); (try clear cz3); (try clear at1); (try clear at2); (try clear cz4); (try clear cz5); (try clear at3); (try clear at4); (try clear ve); (try clear yi); (try clear tu); (try clear yj); (try clear aj5); (try clear aj6); (try clear aj7); (try clear p1); (try clear p18); (try clear sa); (try clear ab7); (try clear ab9); (try clear ac1); (try clear p2); (try clear p20); (try clear as7); (try clear yk); (try clear ym); (try clear p6); (try clear q1); (try clear q18); (try clear sb); (try clear ab8); (try clear ac0); (try clear ac2); (try clear q2); (try clear q20); (try clear as8); (try clear yl); try clear yn
          obtain ⟨na, rfl, HA, HK4, cw, az, HB⟩ := hrel
          cases gk with
          | zero => exact absurd HA.out (by simp [spec_l3Paths.l1])
          | succ k4 =>
           have H := HA.out
           clear HA
           simp only [spec_l3Paths.l1] at H
           by_cases nc : na < (l1.length : Int)
           ·rw [if_pos nc] at H
            have cb2 := decide_eq_true nc
            clear nc
            obtain ⟨ny, H⟩ := pos_ H
            have cz6 := decide_eq_true ny
            clear ny
            by_cases h9 : (rd l1 na) = eu
            ·rw [if_pos h9] at H
             have yo : ((rd l1 na) == eu) = true := beq_iff_eq.mpr h9
             have aj8 : ((rd l1 na) != eu) = false := bne_eq_false_iff_eq.mpr h9
             clear h9
             have H' := Aside0.mk H
             clear H
             have ac4 : 0 ≤ (na : Int) := of_decide_eq_true (g0_)
             have ac5 : na < (l1.length : Int) := of_decide_eq_true (g0_)
             obtain ⟨cb3, cb4, at5⟩ := Kd.at_int ig.out na ac4 ac5
             obtain rfl : aj3 = cb3 := (by injection cb4)
             replace at5 := cl_ HB at5
             replace ac4 := eq_true ac4
             replace ac5 := eq_true ac5
             go_wp2; (repeat ((first | go_step3 | rw [Exit.noGoto_normal] | rw [Exit.noGoto_exit] | rw [Exit.noGoto_ret]); go_wp2))
             go_roundg k4
             case measure => have := HJ5.out; have := HJ17.out; have := HK3.out; have := HK4.out; omega
             case rel => exact ⟨(i8), (wrap64 (eu + 1)), (g3_), H', ⟨g64_⟩, ⟨uf4_ cw⟩, ⟨uf0_ az⟩, ⟨cd⟩⟩
            ·rw [if_neg h9] at H
             have yo : ((rd l1 na) == eu) = false := beq_eq_false_iff_ne.mpr h9
             have aj8 : ((rd l1 na) != eu) = true := bne_iff_ne.mpr h9
             have H' := Aside0.mk H
             clear H
             have ac4 : 0 ≤ (na : Int) := of_decide_eq_true (g0_)
             have ac5 : na < (l1.length : Int) := of_decide_eq_true (g0_)
             obtain ⟨cb3, cb4, at5⟩ := Kd.at_int ig.out na ac4 ac5
             obtain rfl : aj3 = cb3 := (by injection cb4)
             replace at5 := cl_ HB at5
             replace ac4 := eq_true ac4
             replace ac5 := eq_true ac5
             go_wp2; (repeat ((first | go_step3 | rw [Exit.noGoto_normal] | rw [Exit.noGoto_exit] | rw [Exit.noGoto_ret]); go_wp2))
             go_roundg k4
             case measure => have := HJ5.out; have := HJ17.out; have := HK3.out; have := HK4.out; omega
             case rel => exact ⟨(wrap64 (na + 1)), (g3_), H', ⟨g64_⟩, ⟨uf4_ cw⟩, ⟨uf0_ az⟩, ⟨cd⟩⟩
           ·rw [if_neg nc] at H
            have cb2 := decide_eq_false nc
            clear nc
            obtain ⟨vc, hy204⟩ : ∃ y_ : List Int, y_ = (([] : List Int)) := ⟨_, rfl⟩
            replace H : (if vc.length + l1.length < 17592186044416 then ((some (vc ++ l1 : List Int)).bind fun ot => ((some (([eu] : List Int) : List Int)).bind fun jz => (if ot.length + jz.length < 17592186044416 then ((spec_l3Paths.f k4 ab aa (ot ++ jz)).bind fun lo => (if i8.length + lo.length < 5864062014805 then (spec_l3Paths.l0 k4 l1 (i8 ++ lo) (rd l1 (ji3)) (wrap64 (eu + 1)) ab aa) else (none))) else (none)))) else (none)) = some r := by first | (rw [hy204]; with_reducible exact H) | (have H2_ := (Option.bind_some _ _).symm.trans H; rw [hy204]; with_reducible exact H2_) | (have H2_ := (Option.bind_some _ _).symm.trans H; with_reducible exact H2_) | with_reducible exact H | (rw [hy204]; exact H) | exact H
            have bk5 := Aside0.mk hy204
            clear hy204
            obtain ⟨c42, H⟩ := pos_ H
            have cb5 := Aside0.mk c42
            clear c42
            obtain ⟨ot, hy207⟩ : ∃ y_ : List Int, y_ = (vc ++ l1) := ⟨_, rfl⟩
            replace H : ((some (([eu] : List Int) : List Int)).bind fun jz => (if ot.length + jz.length < 17592186044416 then ((spec_l3Paths.f k4 ab aa (ot ++ jz)).bind fun lo => (if i8.length + lo.length < 5864062014805 then (spec_l3Paths.l0 k4 l1 (i8 ++ lo) (rd l1 (ji3)) (wrap64 (eu + 1)) ab aa) else (none))) else (none))) = some r := by first | (rw [hy207]; with_reducible exact H) | (have H2_ := (Option.bind_some _ _).symm.trans H; rw [hy207]; with_reducible exact H2_) | (have H2_ := (Option.bind_some _ _).symm.trans H; with_reducible exact H2_) | with_reducible exact H | (rw [hy207]; exact H) | exact H
            have cb6 := Aside0.mk hy207
            clear hy207
            obtain ⟨jz, hy210⟩ : ∃ y_ : List Int, y_ = (([eu] : List Int)) := ⟨_, rfl⟩
            replace H : (if ot.length + jz.length < 17592186044416 then ((spec_l3Paths.f k4 ab aa (ot ++ jz)).bind fun lo => (if i8.length + lo.length < 5864062014805 then (spec_l3Paths.l0 k4 l1 (i8 ++ lo) (rd l1 (ji3)) (wrap64 (eu + 1)) ab aa) else (none))) else (none)) = some r := by first | (rw [hy210]; with_reducible exact H) | (have H2_ := (Option.bind_some _ _).symm.trans H; rw [hy210]; with_reducible exact H2_) | (have H2_ := (Option.bind_some _ _).symm.trans H; with_reducible exact H2_) | with_reducible exact H | (rw [hy210]; exact H) | exact H
            have aj9 := Aside0.mk hy210
            clear hy210
            obtain ⟨c43, H⟩ := pos_ H
            have ej0 := Aside0.mk c43
            clear c43
            obtain ⟨yp, hy213⟩ : ∃ y_ : List Int, y_ = (ot ++ jz) := ⟨_, rfl⟩
            replace H : ((spec_l3Paths.f k4 ab aa yp).bind fun lo => (if i8.length + lo.length < 5864062014805 then (spec_l3Paths.l0 k4 l1 (i8 ++ lo) (rd l1 (ji3)) (wrap64 (eu + 1)) ab aa) else (none))) = some r := by first | (rw [hy213]; with_reducible exact H) | (have H2_ := (Option.bind_some _ _).symm.trans H; rw [hy213]; with_reducible exact H2_) | (have H2_ := (Option.bind_some _ _).symm.trans H; with_reducible exact H2_) | with_reducible exact H | (rw [hy213]; exact H) | exact H
            have ej1 := Aside0.mk hy213
            clear hy213
            obtain ⟨lo, A44, H⟩ := bind_ H
            obtain ⟨c45, H⟩ := pos_ H
            have cb7 := Aside0.mk c45
            clear c45
            obtain ⟨cz7, hy219⟩ : ∃ y_ : List (List Int), y_ = (i8 ++ lo) := ⟨_, rfl⟩
            replace H : (spec_l3Paths.l0 k4 l1 cz7 (rd l1 (ji3)) (wrap64 (eu + 1)) ab aa) = some r := by first | (rw [hy219]; with_reducible exact H) | (have H2_ := (Option.bind_some _ _).symm.trans H; rw [hy219]; with_reducible exact H2_) | (have H2_ := (Option.bind_some _ _).symm.trans H; with_reducible exact H2_) | with_reducible exact H | (rw [hy219]; exact H) | exact H
            have ej2 := Aside0.mk hy219
            clear hy219
            have H' := Aside0.mk H
            clear H
            obtain ⟨ak0, ak1, ej3⟩ := Kd.N_slice cw.out
            subst ej3
            try go_wp2
            replace cw := Aside0.mk (Kd.N_drew cw.out)
            replace az := Aside0.mk (blk_drew az.out)
            replace HB := Aside0.mk (below_drew1 HB.out)
            refine start_ (n := 11) (S := fun w' => w'.cell? ⟨cj, 0, none⟩ = some (.slice ag ab.length ae) ∧ w'.cell? ⟨cj, 1, none⟩ = some (.slice (some nx) aa.length af)) (ds := []) (tl_ 11 0) (g1_) rfl (g1_) ⟨(blk_cell az.out 0).trans rfl, (blk_cell az.out 1).trans rfl⟩ (fun hHeld => ?_); refine with_tabW spec_l3Paths.tab13 spec_l3Paths.bits13 (fun HT_ HW_ => ?_)
            generalize wr.drew = w47 at cw az HB hHeld ⊢
            refine pw_ 0 70 (tl_ 11 1) rfl rfl ?_
            refine pw_ 3 73 (tl_ 11 9) rfl rfl ?_
            refine pw_ 5 75 (tl_ 11 41) rfl rfl ?_
            refine tk6_ 1 71 (tl_ 11 43) rfl rfl hHeld ?_
            refine join_ (σ := Value × Value × Value) 4 (tl_ 11 127) (fun s_ => [(72, s_.1), (74, s_.2.1), (76, s_.2.2)]) (fun s_ w' => (w'.cell? ⟨cj, 0, none⟩ = some (.slice ag ab.length ae) ∧ w'.cell? ⟨cj, 1, none⟩ = some (.slice (some nx) aa.length af)) ∧ (Kd.R (Kd.int .i64) 3 w' w.heap.size (fun k_ => (w.heap.size ≤ k_) ∧ some k_ ≠ (s_.2.2 : Value).ownBlock) s_.2.1 ot) ∧ (Kd.R (Kd.int .i64) 3 w' w.heap.size (fun k_ => (w.heap.size ≤ k_) ∧ some k_ ≠ (s_.2.1 : Value).ownBlock) s_.2.2 jz) ∧ (Kd.N (Kd.slice 3 (Kd.int .i64)) 22 w' w.heap.size (fun k_ => (w.heap.size ≤ k_) ∧ some k_ ≠ (s_.2.1 : Value).ownBlock ∧ some k_ ≠ (s_.2.2 : Value).ownBlock ∧ k_ ≠ cj) (.slice ak0 i8.length ak1) i8) ∧ (w'.heap[cj]? = some (.cells #[.slice ag ab.length ae, .slice (some nx) aa.length af] 25 (0, 0))) ∧ (Below w.heap.size w w')) ?_ ?_
            rotate_left
            ·intro hCont
             refine two_ (i := 2) (j := 6) (Ni := some 72) (Nj := some 76) (tl_ 11 47) (tl_ 11 107) rfl rfl rfl rfl (two_of HT_.out (g1_)) (by decide) (by decide) (fun K hK => ?_) (fun K hK => ?_)
             ·skip
              refine Kd.R_lit_step (Kd.int .i64) _ 3 ?hg (N := 72) ?hd (xs := ([] : List Int)) (inner := []) (ok := fun _ => True) (okp := fun _ => True) ?hr ?hp (fun _ hk => hk) trivial (Below.refl _ _) (Nat.le_refl _) (by simp) ?_; (case hd => rfl); (case hg => rfl); (case hr => first | (go_simp; done) | (go_simp; rfl)); (case hp => exact (Reps.none _ _))
              intro yq w48 pn hb hg_ hnew_
              clear hg_ hnew_
              (first | rw [← bk5.out] at pn | (simp only [Int.reduceToNat] at pn; rw [← bk5.out] at pn))
              replace cw := Aside0.mk (Kd.N_elder' (uf4_ cw) (Kd.R_base pn) hb)
              have po := Aside0.mk (Kd.R_lower (Kd.R_newM (M := fun k_ => (w.heap.size ≤ k_)) pn (below_size (cd)) (fun k_ h_ => h_)) (below_size (cd)))
              replace az := bb_ az hb
              replace HB := Aside0.mk (below_step (cd) hb)
              clear hb pn
              refine hK.out _ _ ⟨(blk_cell az.out 0).trans rfl, (blk_cell az.out 1).trans rfl⟩ (fun hHeld => ?_)
              clear hK K
              refine nm_ ?_
              refine two_ (i := 4) (j := 6) (Ni := some 74) (Nj := some 76) (tl_ 11 63) (tl_ 11 111) rfl rfl rfl rfl (two_of HT_.out (g1_)) (by decide) (by decide) (fun K hK => ?_) (fun K hK => ?_)
              ·skip
               refine Kd.R_append_rows_step (Kd.int .i64) (w0 := w) w.heap.size (by rfl) (.tmp 72) (.tmp 73) 22 3 (.int .i64 0) 8 rfl Try.underlying22 info3 rfl (by decide) (by omega) yq vc l1 _ _ _ (fun k_ => (w.heap.size ≤ k_)) (fun _ => False) rfl rfl ?aO ?aR (fun _ _ h => h) (fun _ h => h.elim) ?aF ?aB ?aS ?aL ?_
               (case aR => exact uf1_ ig)
               (case aB => exact (cd))
               (case aF => exact (fun k_ hk => (Nat.le_trans (below_size (cd)) hk)))
               (case aO => exact (by (with_reducible repeat (first | apply Kd.R_alloc | apply Kd.R_drewN | apply Kd.R_drew)); exact Kd.R_mono po.out (fun _ hk => hk.1)))
               (case aS => exact (below_size (cd)))
               (case aL => have := cb5.out; omega)
               intro tw w50 ho hb hg hat
               rw [← cb6.out] at ho
               replace cw := Aside0.mk (Kd.N_afterv (ok := (fun k_ => (w.heap.size ≤ k_) ∧ k_ ≠ cj)) (uf4_ cw) hg hat)
               replace az := Aside0.mk (blk_grown (g := cj) (o := .cells #[.slice ag ab.length ae, .slice (some nx) aa.length af] 25 (0, 0)) (uf0_ az) hg (Kd.R_ne po.out az.out (by decide)))
               replace HB := Aside0.mk (hb)
               have qw := Aside0.mk (ho)
               clear po
               clear ho hb hg hat
               refine hK.out _ _ ⟨(blk_cell az.out 0).trans rfl, (blk_cell az.out 1).trans rfl⟩ (fun hHeld => ?_)
               clear hK K
               refine nm_ ?_
               refine one_ (i := 6) (N := some 76) (tl_ 11 127) rfl rfl (one_of HT_.out (g1_)) (by decide) (fun K hK => ?_)
               refine Kd.R_lit_step (Kd.int .i64) _ 3 ?hg (N := 76) ?hd (xs := ([eu] : List Int)) (inner := [.int .i64 eu]) (ok := fun _ => True) (okp := fun _ => True) ?hr ?hp (fun _ hk => hk) trivial (Below.refl _ _) (Nat.le_refl _) (by simp) ?_; (case hd => rfl); (case hg => rfl); (case hr => first | (go_simp; done) | (go_simp; rfl)); (case hp => exact (Reps.one (show Kd.M (Kd.int .i64) _ _ _ eu [.int .i64 eu] from rfl) (Reps.none _ _)))
               intro pp w51 ac6 hb hg_ hnew_
               clear hg_ hnew_
               (first | rw [← aj9.out] at ac6 | (simp only [Int.reduceToNat] at ac6; rw [← aj9.out] at ac6))
               replace cw := Aside0.mk (Kd.N_elder' (uf4_ cw) (Kd.R_base ac6) hb)
               have jj := Aside0.mk (Kd.R_lower (Kd.R_new' (Kd.R_newM (M := fun k_ => (w.heap.size ≤ k_)) ac6 (below_size (cd)) (fun k_ h_ => h_)) (Kd.R_lt (uf2_ qw))) (below_size (cd)))
               replace qw := Aside0.mk (Kd.R_elder' (uf2_ qw) (Kd.R_base ac6) hb)
               replace az := bb_ az hb
               replace HB := Aside0.mk (below_step (cd) hb)
               clear hb ac6
               refine hK.out _ _ ⟨(blk_cell az.out 0).trans rfl, (blk_cell az.out 1).trans rfl⟩ (fun hHeld => ?_)
               clear hK K
               refine nm_ ?_
               exact norm_ (g21_) (hCont (yq, tw, pp) _ ⟨hHeld, (uf2_ qw), (g75_), (by (with_reducible repeat (first | apply Kd.N_alloc | apply Kd.N_drewN | apply Kd.N_drew)); exact Kd.N_mono cw.out (fun _ hk => ⟨hk.1.1.1, ⟨hk.1.2, ⟨hk.2, hk.1.1.2⟩⟩⟩)), (uf0_ az), (cd)⟩)
              ·skip
               refine Kd.R_lit_step (Kd.int .i64) _ 3 ?hg (N := 76) ?hd (xs := ([eu] : List Int)) (inner := [.int .i64 eu]) (ok := fun _ => True) (okp := fun _ => True) ?hr ?hp (fun _ hk => hk) trivial (Below.refl _ _) (Nat.le_refl _) (by simp) ?_; (case hd => rfl); (case hg => rfl); (case hr => first | (go_simp; done) | (go_simp; rfl)); (case hp => exact (Reps.one (show Kd.M (Kd.int .i64) _ _ _ eu [.int .i64 eu] from rfl) (Reps.none _ _)))
               intro pp w50 nz hb hg_ hnew_
               clear hg_ hnew_
               (first | rw [← aj9.out] at nz | (simp only [Int.reduceToNat] at nz; rw [← aj9.out] at nz))
               replace cw := Aside0.mk (Kd.N_elder' (uf4_ cw) (Kd.R_base nz) hb)
               have jj := Aside0.mk (Kd.R_lower (Kd.R_new' (Kd.R_newM (M := fun k_ => (w.heap.size ≤ k_)) nz (below_size (cd)) (fun k_ h_ => h_)) (Kd.R_lt (uf2_ po))) (below_size (cd)))
               replace po := Aside0.mk (Kd.R_elder' (uf2_ po) (Kd.R_base nz) hb)
               replace az := bb_ az hb
               replace HB := Aside0.mk (below_step (cd) hb)
               clear hb nz
               refine hK.out _ _ ⟨(blk_cell az.out 0).trans rfl, (blk_cell az.out 1).trans rfl⟩ (fun hHeld => ?_)
               clear hK K
               refine nm_ ?_
               refine one_ (i := 4) (N := some 74) (tl_ 11 127) rfl rfl (one_of HT_.out (g1_)) (by decide) (fun K hK => ?_)
               refine Kd.R_append_rows_step (Kd.int .i64) (w0 := w) w.heap.size (by rfl) (.tmp 72) (.tmp 73) 22 3 (.int .i64 0) 8 rfl Try.underlying22 info3 rfl (by decide) (by omega) yq vc l1 _ _ _ (fun k_ => (w.heap.size ≤ k_) ∧ some k_ ≠ (pp : Value).ownBlock) (fun _ => False) rfl rfl ?aO ?aR (fun _ _ h => h) (fun _ h => h.elim) ?aF ?aB ?aS ?aL ?_
               (case aR => exact uf1_ ig)
               (case aB => exact (cd))
               (case aF => exact (fun k_ hk => ⟨(Nat.le_trans (below_size (cd)) hk), Kd.fresh' (Kd.R_lt (uf2_ jj)) k_ hk⟩))
               (case aO => exact (by (with_reducible repeat (first | apply Kd.R_alloc | apply Kd.R_drewN | apply Kd.R_drew)); exact Kd.R_mono po.out (fun _ hk => ⟨hk.1.1, hk.2⟩)))
               (case aS => exact (below_size (cd)))
               (case aL => have := cb5.out; omega)
               intro tw w52 ho hb hg hat
               rw [← cb6.out] at ho
               replace cw := Aside0.mk (Kd.N_afterv (ok := (fun k_ => (w.heap.size ≤ k_) ∧ some k_ ≠ (pp : Value).ownBlock ∧ k_ ≠ cj)) (by (with_reducible repeat (first | apply Kd.N_alloc | apply Kd.N_drewN | apply Kd.N_drew)); exact Kd.N_mono cw.out (fun _ hk => ⟨⟨hk.1.1.1, ⟨hk.2, hk.1.1.2⟩⟩, hk.1.2⟩)) hg hat)
               replace az := Aside0.mk (blk_grown (g := cj) (o := .cells #[.slice ag ab.length ae, .slice (some nx) aa.length af] 25 (0, 0)) (uf0_ az) hg (Kd.R_ne po.out az.out (by decide)))
               replace jj := Aside0.mk (Kd.R_after (ok := (fun k_ => (w.heap.size ≤ k_))) (g75_) hg hat)
               replace HB := Aside0.mk (hb)
               have qw := Aside0.mk (ho)
               clear po
               clear ho hb hg hat
               refine hK.out _ _ ⟨(blk_cell az.out 0).trans rfl, (blk_cell az.out 1).trans rfl⟩ (fun hHeld => ?_)
               clear hK K
               refine nm_ ?_
               exact norm_ (g21_) (hCont (yq, tw, pp) _ ⟨hHeld, (uf2_ qw), (uf2_ jj), (by (with_reducible repeat (first | apply Kd.N_alloc | apply Kd.N_drewN | apply Kd.N_drew)); exact Kd.N_mono cw.out (fun _ hk => ⟨hk.1.1, ⟨hk.2, ⟨hk.1.2.1, hk.1.2.2⟩⟩⟩)), (uf0_ az), (cd)⟩)
             ·skip
              refine Kd.R_lit_step (Kd.int .i64) _ 3 ?hg (N := 76) ?hd (xs := ([eu] : List Int)) (inner := [.int .i64 eu]) (ok := fun _ => True) (okp := fun _ => True) ?hr ?hp (fun _ hk => hk) trivial (Below.refl _ _) (Nat.le_refl _) (by simp) ?_; (case hd => rfl); (case hg => rfl); (case hr => first | (go_simp; done) | (go_simp; rfl)); (case hp => exact (Reps.one (show Kd.M (Kd.int .i64) _ _ _ eu [.int .i64 eu] from rfl) (Reps.none _ _)))
              intro pp w48 pn hb hg_ hnew_
              clear hg_ hnew_
              (first | rw [← aj9.out] at pn | (simp only [Int.reduceToNat] at pn; rw [← aj9.out] at pn))
              replace cw := Aside0.mk (Kd.N_elder' (uf4_ cw) (Kd.R_base pn) hb)
              have jj := Aside0.mk (Kd.R_lower (Kd.R_newM (M := fun k_ => (w.heap.size ≤ k_)) pn (below_size (cd)) (fun k_ h_ => h_)) (below_size (cd)))
              replace az := bb_ az hb
              replace HB := Aside0.mk (below_step (cd) hb)
              clear hb pn
              refine hK.out _ _ ⟨(blk_cell az.out 0).trans rfl, (blk_cell az.out 1).trans rfl⟩ (fun hHeld => ?_)
              clear hK K
              refine nm_ ?_
              refine one_ (i := 2) (N := some 72) (tl_ 11 111) rfl rfl (one_of HT_.out (g1_)) (by decide) (fun K hK => ?_)
              refine Kd.R_lit_step (Kd.int .i64) _ 3 ?hg (N := 72) ?hd (xs := ([] : List Int)) (inner := []) (ok := fun _ => True) (okp := fun _ => True) ?hr ?hp (fun _ hk => hk) trivial (Below.refl _ _) (Nat.le_refl _) (by simp) ?_; (case hd => rfl); (case hg => rfl); (case hr => first | (go_simp; done) | (go_simp; rfl)); (case hp => exact (Reps.none _ _))
              intro yq w50 nz hb hg_ hnew_
              clear hg_ hnew_
              (first | rw [← bk5.out] at nz | (simp only [Int.reduceToNat] at nz; rw [← bk5.out] at nz))
              replace cw := Aside0.mk (Kd.N_elder' (uf4_ cw) (Kd.R_base nz) hb)
              have po := Aside0.mk (Kd.R_lower (Kd.R_new' (Kd.R_newM (M := fun k_ => (w.heap.size ≤ k_)) nz (below_size (cd)) (fun k_ h_ => h_)) (Kd.R_lt (uf2_ jj))) (below_size (cd)))
              replace jj := Aside0.mk (Kd.R_elder' (uf2_ jj) (Kd.R_base nz) hb)
              replace az := bb_ az hb
              replace HB := Aside0.mk (below_step (cd) hb)
              clear hb nz
              refine hK.out _ _ ⟨(blk_cell az.out 0).trans rfl, (blk_cell az.out 1).trans rfl⟩ (fun hHeld => ?_)
              clear hK K
              refine nm_ ?_
              refine one_ (i := 4) (N := some 74) (tl_ 11 127) rfl rfl (one_of HT_.out (g1_)) (by decide) (fun K hK => ?_)
              refine Kd.R_append_rows_step (Kd.int .i64) (w0 := w) w.heap.size (by rfl) (.tmp 72) (.tmp 73) 22 3 (.int .i64 0) 8 rfl Try.underlying22 info3 rfl (by decide) (by omega) yq vc l1 _ _ _ (fun k_ => (w.heap.size ≤ k_) ∧ some k_ ≠ (pp : Value).ownBlock) (fun _ => False) rfl rfl ?aO ?aR (fun _ _ h => h) (fun _ h => h.elim) ?aF ?aB ?aS ?aL ?_
              (case aR => exact uf1_ ig)
              (case aB => exact (cd))
              (case aF => exact (fun k_ hk => ⟨(Nat.le_trans (below_size (cd)) hk), Kd.fresh' (Kd.R_lt (uf2_ jj)) k_ hk⟩))
              (case aO => exact (by (with_reducible repeat (first | apply Kd.R_alloc | apply Kd.R_drewN | apply Kd.R_drew)); exact Kd.R_mono po.out (fun _ hk => ⟨hk.1.1, hk.2⟩)))
              (case aS => exact (below_size (cd)))
              (case aL => have := cb5.out; omega)
              intro tw w52 ho hb hg hat
              rw [← cb6.out] at ho
              replace cw := Aside0.mk (Kd.N_afterv (ok := (fun k_ => (w.heap.size ≤ k_) ∧ some k_ ≠ (pp : Value).ownBlock ∧ k_ ≠ cj)) (by (with_reducible repeat (first | apply Kd.N_alloc | apply Kd.N_drewN | apply Kd.N_drew)); exact Kd.N_mono cw.out (fun _ hk => ⟨⟨hk.1.1.1, ⟨hk.1.2, hk.1.1.2⟩⟩, hk.2⟩)) hg hat)
              replace az := Aside0.mk (blk_grown (g := cj) (o := .cells #[.slice ag ab.length ae, .slice (some nx) aa.length af] 25 (0, 0)) (uf0_ az) hg (Kd.R_ne po.out az.out (by decide)))
              replace jj := Aside0.mk (Kd.R_after (ok := (fun k_ => (w.heap.size ≤ k_))) (g75_) hg hat)
              replace HB := Aside0.mk (hb)
              have qw := Aside0.mk (ho)
              clear po
              clear ho hb hg hat
              refine hK.out _ _ ⟨(blk_cell az.out 0).trans rfl, (blk_cell az.out 1).trans rfl⟩ (fun hHeld => ?_)
              clear hK K
              refine nm_ ?_
              exact norm_ (g21_) (hCont (yq, tw, pp) _ ⟨hHeld, (uf2_ qw), (uf2_ jj), (by (with_reducible repeat (first | apply Kd.N_alloc | apply Kd.N_drewN | apply Kd.N_drew)); exact Kd.N_mono cw.out (fun _ hk => ⟨hk.1.1, ⟨hk.2, ⟨hk.1.2.1, hk.1.2.2⟩⟩⟩)), (uf0_ az), (cd)⟩)
            rintro ⟨yq, tw, pp⟩ oq ⟨hS_, h0_, h1_, h2_, h3_, h4_⟩
            have qw : Aside0 (Kd.R (Kd.int .i64) 3 oq w.heap.size (fun k_ => (w.heap.size ≤ k_) ∧ some k_ ≠ (pp : Value).ownBlock) tw ot) := ⟨h0_⟩
            have jj : Aside0 (Kd.R (Kd.int .i64) 3 oq w.heap.size (fun k_ => (w.heap.size ≤ k_) ∧ some k_ ≠ (tw : Value).ownBlock) pp jz) := ⟨h1_⟩
            replace cw : Aside0 (Kd.N (Kd.slice 3 (Kd.int .i64)) 22 oq w.heap.size (fun k_ => (w.heap.size ≤ k_) ∧ some k_ ≠ (tw : Value).ownBlock ∧ some k_ ≠ (pp : Value).ownBlock ∧ k_ ≠ cj) (.slice ak0 i8.length ak1) i8) := ⟨h2_⟩
            replace az : Aside0 (oq.heap[cj]? = some (.cells #[.slice ag ab.length ae, .slice (some nx) aa.length af] 25 (0, 0))) := ⟨h3_⟩
            replace HB : Aside0 (Below w.heap.size w oq) := ⟨h4_⟩
            clear h0_ h1_ h2_ h3_ h4_
            have hHeld : oq.cell? ⟨cj, 0, none⟩ = some (.slice ag ab.length ae) ∧ oq.cell? ⟨cj, 1, none⟩ = some (.slice (some nx) aa.length af) := hS_
            obtain ⟨ac7, ac8, cz8⟩ := Kd.R_slice jj.out
            (first | subst cz8 | (injection cz8 with f1_ f2_ f3_; have f4_ := f1_.symm; have f5_ := f3_.symm; clear f1_ f2_ f3_; subst f4_; subst f5_))
            refine norm_ (a' := ?_) ?_ ?_
            rotate_left
            ·simp only [putAll, Act.put, List.setIfInBounds_toArray, List.set_cons_zero, List.set_cons_succ]
             rfl
            refine one_ (i := 7) (N := some 77) (tl_ 11 255) rfl rfl (one_of HT_.out (g1_)) (by decide) (fun K hK => ?_)
            refine Kd.R_append_rows_step (Kd.int .i64) (w0 := w) w.heap.size (by rfl) (.tmp 74) (.tmp 76) 22 3 (.int .i64 0) 8 rfl Try.underlying22 info3 rfl (by decide) (by omega) tw ot jz _ _ _ (fun k_ => (w.heap.size ≤ k_) ∧ some k_ ≠ (.slice ac7 jz.length ac8 : Value).ownBlock) (fun _ => False) rfl rfl ?aO ?aR (fun _ _ h => h) (fun _ h => h.elim) ?aF ?aB ?aS ?aL ?_
            (case aR => repeat (first | exact (Kd.R_reads' jj.out).2.2 | (with_reducible refine Kd.C_alloc ?_ _) | (with_reducible refine Kd.C_drewN ?_ _) | (with_reducible refine Kd.C_drew ?_)))
            (case aB => exact (cd))
            (case aF => exact (fun k_ hk => ⟨(Nat.le_trans (below_size (cd)) hk), Kd.fresh' (Kd.R_lt (uf2_ jj)) k_ hk⟩))
            (case aO => exact (uf2_ qw))
            (case aS => exact (below_size (cd)))
            (case aL => have := ej0.out; omega)
            intro fu6 w54 ho hb hg hat
            rw [← ej1.out] at ho
            replace cw := Aside0.mk (Kd.N_afterv (ok := (fun k_ => (w.heap.size ≤ k_) ∧ some k_ ≠ (.slice ac7 jz.length ac8 : Value).ownBlock ∧ k_ ≠ cj)) (by (with_reducible repeat (first | apply Kd.N_alloc | apply Kd.N_drewN | apply Kd.N_drew)); exact Kd.N_mono cw.out (fun _ hk => ⟨⟨hk.1, ⟨hk.2.2.1, hk.2.2.2⟩⟩, hk.2.1⟩)) hg hat)
            replace az := Aside0.mk (blk_grown (g := cj) (o := .cells #[.slice ag ab.length ae, .slice (some nx) aa.length af] 25 (0, 0)) (uf0_ az) hg (Kd.R_ne qw.out az.out (by decide)))
            replace jj := Aside0.mk (Kd.R_after (ok := (fun k_ => (w.heap.size ≤ k_))) (uf2_ jj) hg hat)
            replace HB := Aside0.mk (hb)
            have vh := Aside0.mk (ho)
            clear qw
            clear ho hb hg hat
            obtain ⟨ak2, ak3, cz9⟩ := Kd.R_slice vh.out
            (first | subst cz9 | (injection cz9 with f1_ f2_ f3_; have f4_ := f1_.symm; have f5_ := f3_.symm; clear f1_ f2_ f3_; subst f4_; subst f5_))
            refine hK.out _ _ ⟨(blk_cell az.out 0).trans rfl, (blk_cell az.out 1).trans rfl⟩ (fun hHeld => ?_)
            clear hK K
            refine nm_ ?_
            refine one_ (i := 8) (N := some 78) (tl_ 11 511) rfl rfl (one_of HT_.out (g1_)) (by decide) (fun K hK => ?_)
            refine goes_ Try.func113 (g1_) rfl #[.agg #[.slice ag ab.length ae, .slice (some nx) aa.length af], .slice ak2 yp.length ak3] (by rfl) rfl rfl (g2_) ?_
            with_reducible refine (ih k4 (g64_) _ _ ab _ _ aa _ _ yp lo _ ?side1 ?side2 ?side3 ?side4 ?side5 ?side6 A44.out).mono ?_
            (case side1 => exact uf1_ dd)
            (case side2 => exact d6.out)
            (case side3 => exact uf1_ cq)
            (case side4 => exact d7.out)
            (case side5 => repeat (first | exact (Kd.R_reads' vh.out).2.2 | (with_reducible refine Kd.C_alloc ?_ _) | (with_reducible refine Kd.C_drewN ?_ _) | (with_reducible refine Kd.C_drew ?_)))
            (case side6 => exact (Kd.R_reads' vh.out).2.1)
            rintro e w57 ⟨fu7, rfl, am, hb⟩
            refine ⟨_, rfl, ?_⟩
            have bk6 := Aside0.mk (Kd.N_lower (Kd.N_mono (ok' := fun k_ => (w.heap.size ≤ k_) ∧ some k_ ≠ (.slice ak0 i8.length ak1 : Value).ownBlock ∧ some k_ ≠ (.slice ac7 jz.length ac8 : Value).ownBlock ∧ some k_ ≠ (.slice ak2 yp.length ak3 : Value).ownBlock ∧ k_ ≠ cj) am (fun k_ hk_ => ⟨(Nat.le_trans (below_size (cd)) hk_), (Kd.fresh' (Kd.N_lt (uf4_ cw)) k_ hk_), (Kd.fresh' (Kd.R_lt (uf2_ jj)) k_ hk_), (Kd.fresh' (Kd.R_lt (uf2_ vh)) k_ hk_), (Kd.freshB (g := cj) (o := .cells #[.slice ag ab.length ae, .slice (some nx) aa.length af] 25 (0, 0)) (uf0_ az) k_ hk_)⟩)) (below_size (cd)))
            replace cw := Aside0.mk (Kd.N_elder' (uf4_ cw) (Kd.N_base am) hb)
            replace jj := Aside0.mk (Kd.R_below (uf2_ jj) hb)
            replace vh := Aside0.mk (Kd.R_below (uf2_ vh) hb)
            replace az := bb_ az hb
            replace HB := Aside0.mk (below_step (cd) hb)
            (try clear hb)
            (try clear hk hi)
            (try clear am)
            obtain ⟨fu8, fu9, da0⟩ := Kd.N_slice bk6.out
            (first | subst da0 | (injection da0 with f1_ f2_ f3_; have f4_ := f1_.symm; have f5_ := f3_.symm; clear f1_ f2_ f3_; subst f4_; subst f5_))
            refine hK.out _ _ ⟨(blk_cell az.out 0).trans rfl, (blk_cell az.out 1).trans rfl⟩ (fun hHeld => ?_)
            clear hK K
            refine nm_ ?_
            refine one_ (i := 9) (N := some 79) (tl_ 11 1023) rfl rfl (one_of HT_.out (g1_)) (by decide) (fun K hK => ?_)
            refine Kd.N_append_rows_step (Kd.slice 3 (Kd.int .i64)) (w0 := w) w.heap.size (by rfl) (.tmp 70) (.tmp 78) 23 22 (.slice none 0 0) 24 rfl Try.underlying23 info22 rfl (by decide) (by omega) (.slice ak0 i8.length ak1) i8 lo _ _ _ (fun k_ => (w.heap.size ≤ k_) ∧ some k_ ≠ (.slice ac7 jz.length ac8 : Value).ownBlock ∧ some k_ ≠ (.slice ak2 yp.length ak3 : Value).ownBlock ∧ k_ ≠ cj) (fun k_ => ((fun k_ => (w.heap.size ≤ k_) ∧ some k_ ≠ (.slice ac7 jz.length ac8 : Value).ownBlock ∧ some k_ ≠ (.slice ak2 yp.length ak3 : Value).ownBlock ∧ k_ ≠ cj)) k_ ∧ some k_ ≠ (.slice ak0 i8.length ak1 : Value).ownBlock) rfl rfl ?aO ?aR (fun _ hk => hk) ?aF ?aB ?aS ?aL ?_
            (case aR => exact (by skip; exact Kd.N_F (Kd.N_mono (ok' := (fun k_ => ((fun k_ => (w.heap.size ≤ k_) ∧ some k_ ≠ (.slice ac7 jz.length ac8 : Value).ownBlock ∧ some k_ ≠ (.slice ak2 yp.length ak3 : Value).ownBlock ∧ k_ ≠ cj)) k_ ∧ some k_ ≠ (.slice ak0 i8.length ak1 : Value).ownBlock)) (bk6.out) (fun k_ hk => ⟨⟨hk.1, ⟨hk.2.2.1, ⟨hk.2.2.2.1, hk.2.2.2.2⟩⟩⟩, hk.2.1⟩))))
            (case aB => exact (cd))
            (case aF => exact (fun k_ hk => ⟨(Nat.le_trans (below_size (cd)) hk), Kd.fresh' (Kd.R_lt (uf2_ jj)) k_ hk, Kd.fresh' (Kd.R_lt (uf2_ vh)) k_ hk, Kd.freshB (g := cj) (o := .cells #[.slice ag ab.length ae, .slice (some nx) aa.length af] 25 (0, 0)) (uf0_ az) k_ hk⟩))
            (case aO => exact (by (with_reducible repeat (first | apply Kd.N_alloc | apply Kd.N_drewN | apply Kd.N_drew)); exact Kd.N_mono cw.out (fun _ hk => ⟨hk.1.1.1, ⟨hk.1.1.2.1, ⟨hk.1.2, hk.1.1.2.2⟩⟩⟩)))
            (case aS => exact (below_size (cd)))
            (case aL => have := cb7.out; omega)
            intro fv0 pq ho hb hg hat
            rw [← ej2.out] at ho
            replace az := Aside0.mk (blk_grown (g := cj) (o := .cells #[.slice ag ab.length ae, .slice (some nx) aa.length af] 25 (0, 0)) (uf0_ az) hg (Kd.N_ne cw.out az.out (by decide)))
            replace jj := Aside0.mk (Kd.R_over' (uf2_ jj) (Kd.N_typed (uf4_ cw)) (by decide) hg)
            replace vh := Aside0.mk (Kd.R_over' (uf2_ vh) (Kd.N_typed (uf4_ cw)) (by decide) hg)
            replace bk6 := Aside0.mk (Kd.N_afterv (ok := (fun k_ => (w.heap.size ≤ k_) ∧ some k_ ≠ (.slice ac7 jz.length ac8 : Value).ownBlock ∧ some k_ ≠ (.slice ak2 yp.length ak3 : Value).ownBlock ∧ k_ ≠ cj)) (by (with_reducible repeat (first | apply Kd.N_alloc | apply Kd.N_drewN | apply Kd.N_drew)); exact Kd.N_mono bk6.out (fun _ hk => ⟨⟨hk.1, ⟨hk.2.2.1, ⟨hk.2.2.2.1, hk.2.2.2.2⟩⟩⟩, hk.2.1⟩)) hg hat)
            replace HB := Aside0.mk (hb)
            have ej4 := Aside0.mk (ho)
            clear cw
            clear ho hb hg hat
            refine hK.out _ _ ⟨(blk_cell az.out 0).trans rfl, (blk_cell az.out 1).trans rfl⟩ (fun hHeld => ?_)
            clear hK K
            refine nm_ ?_
            refine pw_ 10 5 (tl_ 11 2047) rfl rfl ?_
            refine done_ (done_of HT_.out (g1_)) ?_
            try go_wp2
            go_roundg k4
            case measure => have := HJ5.out; have := HJ17.out; have := HK3.out; have := HK4.out; omega
            case rel => exact ⟨(cz7), (wrap64 (eu + 1)), (g3_), H', ⟨g64_⟩, ⟨by (with_reducible repeat (first | apply Kd.N_alloc | apply Kd.N_drewN | apply Kd.N_drew)); exact Kd.N_mono ej4.out (fun _ hk => ⟨hk.1, hk.2.2.2⟩)⟩, ⟨uf0_ az⟩, ⟨cd⟩⟩
       ·rw [if_neg jp] at H
        have qu := decide_eq_false jp
        clear jp
        obtain rfl := Option.some.inj H
        obtain ⟨ej5, ej6, ej7, ej8⟩ := blk2_ az
        go_wp2; (repeat ((first | go_step3 | rw [Exit.noGoto_normal] | rw [Exit.noGoto_exit] | rw [Exit.noGoto_ret]); go_wp2))
        go_ret
        exact ⟨_, g76_, by (with_reducible repeat (first | apply Kd.N_alloc | apply Kd.N_drewN | apply Kd.N_drew)); exact Kd.N_mono cw.out (fun _ hk => hk.1), cd⟩
def spec_l3Before.l0 : Nat → List Int → List Int → Int → Option (Bool)
 | 0, _, _, _ => none
 | k + 1, x0, x1, x5 => if x5 < (x0.length : Int) then (if 0 ≤ x5 then (if x5 < (x1.length : Int) then (if (rd x0 x5) = (rd x1 x5) then (spec_l3Before.l0 k x0 x1 (wrap64 (x5 + 1))) else (some (decide ((rd x0 x5) < (rd x1 x5))))) else (none)) else (none)) else (some false)
def spec_l3Before.f (k : Nat) (l0 : List Int) (l1 : List Int) : Option (Bool) := if (l0.length : Int) = (l1.length : Int) then (spec_l3Before.l0 k l0 l1 0) else (some (decide ((l0.length : Int) < (l1.length : Int))))
theorem spec_l3Before.mq {p : Prop} (h : p := by
 repeat' first
 | (with_reducible exact ih0 _ _ _)
 | (with_reducible exact LeO.refl _)
 | (with_reducible exact LeO.none _)
 | (with_reducible refine LeO.ite ?_ ?_)
 | (with_reducible refine LeO.bind ?_ (fun _ => ?_))
 | exact ih0 _ _ _
 | exact LeO.none _
 | refine LeO.ite ?_ ?_
 | refine LeO.bind ?_ (fun _ => ?_)) : p := h
theorem spec_l3Before.mono_l : ∀ k, (∀ y0 y1 y2, LeO (spec_l3Before.l0 k y0 y1 y2) (spec_l3Before.l0 (k + 1) y0 y1 y2))
 | 0 => fun _ _ _ r h => by simp [spec_l3Before.l0] at h
 | k + 1 => by
  have ih0 := spec_l3Before.mono_l k
  ·intro y0 y1 y2
   unfold spec_l3Before.l0
   exact spec_l3Before.mq
theorem spec_l3Before.mono : ∀ a0 a1 k, LeO (spec_l3Before.f k a0 a1) (spec_l3Before.f (k + 1) a0 a1) := by
 intro a0 a1 k
 have ih0 := spec_l3Before.mono_l k
 unfold spec_l3Before.f
 exact spec_l3Before.mq
set_option maxHeartbeats 8000000 in
set_option maxRecDepth 100000 in
theorem spec_l3Before.calls (k : Nat) (A0 : Option Addr) (c0 : Nat) (l0 : List Int) (A1 : Option Addr) (c1 : Nat) (l1 : List Int) (r : Bool) (w : World) (e8 : Kd.C (Kd.int .i64) w A0 l0.length l0) (go : l0.length ≤ c0) (nr : Kd.C (Kd.int .i64) w A1 l1.length l1) (ns : l1.length ≤ c1) (h : spec_l3Before.f k l0 l1 = some r) :
  Calls Try.prog 114 #[.slice A0 l0.length c0, .slice A1 l1.length c1] w fun e w' => e = .returned (.bool r) ∧ Drawn0 w w' := by
 have jw := Aside0.mk e8
 have ll := Aside0.mk go
 clear e8 go
 have ig := Aside0.mk nr
 have un := Aside0.mk ns
 clear nr ns
 have H : (if (l0.length : Int) = (l1.length : Int) then (spec_l3Before.l0 k l0 l1 0) else (some (decide ((l0.length : Int) < (l1.length : Int))))) = some r := h
 clear h
 by_cases c3 : (l0.length : Int) = (l1.length : Int)
 ·rw [if_pos c3] at H
  have rr : ((l0.length : Int) == (l1.length : Int)) = true := beq_iff_eq.mpr c3
  have aq2 : ((l0.length : Int) != (l1.length : Int)) = false := bne_eq_false_iff_eq.mpr c3
  have da1 : (l0.length == l1.length) = true := by first | simpa using c3 | (simp at c3 ⊢; omega)
  clear c3
  have H' := Aside0.mk H
  clear H
  go_enter Try.func114, Try.ntmps114
  go_wp2
  repeat (go_quiet (fail); try go_wp2)
  go_loopg [5] k (fun kq v5 w' => ∃ (bu : Int), v5 = .int .i64 bu ∧ Aside0 (spec_l3Before.l0 kq l0 l1 bu = some r) ∧ Aside0 (kq ≤ k) ∧ Drawn0 w w')
  case atStart => exact ⟨(0), (g3_), H', ⟨Nat.le_refl _⟩, g19_⟩
  case round =>
   clear H'
   try clear c1
   try clear p2
   try clear c3
   try clear rr
   try clear aq2
   try clear da1
   obtain ⟨bu, rfl, HA, HK1, ⟨m1, rfl⟩⟩ := hrel
   cases gk with
   | zero => exact absurd HA.out (by simp [spec_l3Before.l0])
   | succ k1 =>
    have H := HA.out
    clear HA
    simp only [spec_l3Before.l0] at H
    by_cases c4 : bu < (l0.length : Int)
    ·rw [if_pos c4] at H
     have og := decide_eq_true c4
     clear c4
     obtain ⟨c5, H⟩ := pos_ H
     have gr := decide_eq_true c5
     clear c5
     obtain ⟨c6, H⟩ := pos_ H
     have k9 := decide_eq_true c6
     clear c6
     by_cases c7 : (rd l0 bu) = (rd l1 bu)
     ·rw [if_pos c7] at H
      have ap1 : ((rd l0 bu) == (rd l1 bu)) = true := beq_iff_eq.mpr c7
      have bu8 : ((rd l0 bu) != (rd l1 bu)) = false := bne_eq_false_iff_eq.mpr c7
      clear c7
      have H' := Aside0.mk H
      clear H
      have ac9 : 0 ≤ (bu : Int) := of_decide_eq_true (g0_)
      have ad0 : bu < (l0.length : Int) := of_decide_eq_true (g0_)
      obtain ⟨da2, cb8, ej9⟩ := Kd.at_int jw.out bu ac9 ad0
      cases cb8
      replace ac9 := eq_true ac9
      replace ad0 := eq_true ad0
      have ad1 : 0 ≤ (bu : Int) := of_decide_eq_true (g0_)
      have ad2 : bu < (l1.length : Int) := of_decide_eq_true (g0_)
      obtain ⟨da3, cb9, ek0⟩ := Kd.at_int ig.out bu ad1 ad2
      cases cb9
      replace ad1 := eq_true ad1
      replace ad2 := eq_true ad2
      go_wp2
      repeat (go_quiet (fail); try go_wp2)
      go_roundg k1
      case measure => have := HK1.out; omega
      case rel => exact ⟨(wrap64 (bu + 1)), (g3_), H', ⟨g15_⟩, g19_⟩
     ·rw [if_neg c7] at H
      have ap1 : ((rd l0 bu) == (rd l1 bu)) = false := beq_eq_false_iff_ne.mpr c7
      have bu8 : ((rd l0 bu) != (rd l1 bu)) = true := bne_iff_ne.mpr c7
      obtain rfl := Option.some.inj H
      have ac9 : 0 ≤ (bu : Int) := of_decide_eq_true (g0_)
      have ad0 : bu < (l0.length : Int) := of_decide_eq_true (g0_)
      obtain ⟨da2, cb8, ej9⟩ := Kd.at_int jw.out bu ac9 ad0
      cases cb8
      replace ac9 := eq_true ac9
      replace ad0 := eq_true ad0
      have ad1 : 0 ≤ (bu : Int) := of_decide_eq_true (g0_)
      have ad2 : bu < (l1.length : Int) := of_decide_eq_true (g0_)
      obtain ⟨da3, cb9, ek0⟩ := Kd.at_int ig.out bu ad1 ad2
      cases cb9
      replace ad1 := eq_true ad1
      replace ad2 := eq_true ad2
      have cc0 : 0 ≤ (bu : Int) := of_decide_eq_true (g0_)
      have cc1 : bu < (l0.length : Int) := of_decide_eq_true (g0_)
      obtain ⟨ek1, ek2, fv1⟩ := Kd.at_int jw.out bu cc0 cc1
      obtain rfl : da2 = ek1 := (by injection ek2)
      replace cc0 := eq_true cc0
      replace cc1 := eq_true cc1
      have cc2 : 0 ≤ (bu : Int) := of_decide_eq_true (g0_)
      have cc3 : bu < (l1.length : Int) := of_decide_eq_true (g0_)
      obtain ⟨ek3, ek4, fv2⟩ := Kd.at_int ig.out bu cc2 cc3
      obtain rfl : da3 = ek3 := (by injection ek4)
      replace cc2 := eq_true cc2
      replace cc3 := eq_true cc3
      go_wp2
      repeat (go_quiet (fail); try go_wp2)
      go_ret
      exact ⟨g3_, g19_⟩
    ·rw [if_neg c4] at H
     have og := decide_eq_false c4
     clear c4
     obtain rfl := Option.some.inj H
     go_wp2
     repeat (go_quiet (fail); try go_wp2)
     go_ret
     exact ⟨g3_, g19_⟩
 ·rw [if_neg c3] at H
  have rr : ((l0.length : Int) == (l1.length : Int)) = false := beq_eq_false_iff_ne.mpr c3
  have aq2 : ((l0.length : Int) != (l1.length : Int)) = true := bne_iff_ne.mpr c3
  have da1 : (l0.length == l1.length) = false := by first | simpa using c3 | (simp at c3 ⊢; omega)
  obtain rfl := Option.some.inj H
  go_enter Try.func114, Try.ntmps114
  go_wp2
  repeat (go_quiet (fail); try go_wp2)
  go_ret
  exact ⟨g3_, g19_⟩
mutual
def spec_CirclesOf.j1 : Nat → List (List Int) → Option ((List (List Int)))
 | 0, _ => none
 | k + 1, x3 => spec_CirclesOf.l1 k x3 1
def spec_CirclesOf.l1 : Nat → List (List Int) → Int → Option ((List (List Int)))
 | 0, _, _ => none
 | k + 1, x3, x5 => if x5 < (x3.length : Int) then (spec_CirclesOf.l2 k x3 x5 x5) else (some x3)
def spec_CirclesOf.l2 : Nat → List (List Int) → Int → Int → Option ((List (List Int)))
 | 0, _, _, _ => none
 | k + 1, x3, x5, x6 => if x6 > 0 then (if 0 ≤ x6 then (if x6 < (x3.length : Int) then (if 0 ≤ (wrap64 (x6 - 1)) then (if (wrap64 (x6 - 1)) < (x3.length : Int) then ((spec_l3Before.f k (rd_L1 x3 x6) (rd_L1 x3 (wrap64 (x6 - 1)))).bind fun at6 => (if at6 = true then (spec_CirclesOf.l2 k ((x3.set (x6 : Int).toNat (rd_L1 x3 (wrap64 (x6 - 1)))).set ((wrap64 (x6 - 1)) : Int).toNat (rd_L1 x3 x6)) x5 (wrap64 (x6 - 1))) else (spec_CirclesOf.l1 k x3 (wrap64 (x5 + 1))))) else (none)) else (none)) else (none)) else (none)) else (spec_CirclesOf.l1 k x3 (wrap64 (x5 + 1)))
def spec_CirclesOf.l0 : Nat → List (List Int) → Int → List Int → List (List Int) → Option ((List (List Int)))
 | 0, _, _, _, _ => none
 | k + 1, x3, x4, bk7, cc4 => if x4 < (bk7.length : Int) then ((spec_BookOk.f k bk7 cc4).bind fun cc5 => (if cc5 = true then ((spec_l3Paths.f k bk7 cc4 (([x4] : List Int))).bind fun pr => (if x3.length + pr.length < 5864062014805 then (spec_CirclesOf.l0 k (x3 ++ pr) (wrap64 (x4 + 1)) bk7 cc4) else (none))) else (spec_CirclesOf.j1 k x3))) else (spec_CirclesOf.j1 k x3)
end
def spec_CirclesOf.f (k : Nat) (ab : List Int) (aa : List (List Int)) : Option ((List (List Int))) := spec_CirclesOf.l0 k (([] : List (List Int))) 0 ab aa
theorem spec_CirclesOf.V_atq {α : Type} {d : Kd α} {e : Nat} {w w1 : World} {base n : Nat} {ok : Nat → Prop} {v : Value} {xs : List α} (hq : World.drewN w n = w1) (h : Kd.V d e w base ok v xs) : Kd.V d e w1 base ok v xs := by subst hq; exact Kd.V_drewN h n
theorem spec_CirclesOf.mq {p : Prop} (h : p := by
 repeat' first
 | (with_reducible exact ih0 _)
 | (with_reducible exact ih1 _ _)
 | (with_reducible exact ih2 _ _ _)
 | (with_reducible exact ih3 _ _ _ _)
 | (with_reducible exact spec_BookOk.mono _ _ _)
 | (with_reducible exact spec_l3Before.mono _ _ _)
 | (with_reducible exact spec_l3Paths.mono _ _ _ _)
 | (with_reducible exact LeO.refl _)
 | (with_reducible exact LeO.none _)
 | (with_reducible refine LeO.ite ?_ ?_)
 | (with_reducible refine LeO.bind ?_ (fun _ => ?_))
 | exact ih0 _
 | exact ih1 _ _
 | exact ih2 _ _ _
 | exact ih3 _ _ _ _
 | exact spec_BookOk.mono _ _ _
 | exact spec_l3Before.mono _ _ _
 | exact spec_l3Paths.mono _ _ _ _
 | exact LeO.none _
 | refine LeO.ite ?_ ?_
 | refine LeO.bind ?_ (fun _ => ?_)) : p := h
theorem spec_CirclesOf.mono_l : ∀ k, (∀ y0, LeO (spec_CirclesOf.j1 k y0) (spec_CirclesOf.j1 (k + 1) y0)) ∧ (∀ y0 y1, LeO (spec_CirclesOf.l1 k y0 y1) (spec_CirclesOf.l1 (k + 1) y0 y1)) ∧ (∀ y0 y1 y2, LeO (spec_CirclesOf.l2 k y0 y1 y2) (spec_CirclesOf.l2 (k + 1) y0 y1 y2)) ∧ (∀ y0 y1 y2 y3, LeO (spec_CirclesOf.l0 k y0 y1 y2 y3) (spec_CirclesOf.l0 (k + 1) y0 y1 y2 y3))
 | 0 => ⟨fun _ r h => by simp [spec_CirclesOf.j1] at h, fun _ _ r h => by simp [spec_CirclesOf.l1] at h, fun _ _ _ r h => by simp [spec_CirclesOf.l2] at h, fun _ _ _ _ r h => by simp [spec_CirclesOf.l0] at h⟩
 | k + 1 => by
  obtain ⟨ih0, ih1, ih2, ih3⟩ := spec_CirclesOf.mono_l k
  refine ⟨?_, ?_, ?_, ?_⟩
  ·intro y0
   unfold spec_CirclesOf.j1
   exact spec_CirclesOf.mq
  ·intro y0 y1
   unfold spec_CirclesOf.l1
   exact spec_CirclesOf.mq
  ·intro y0 y1 y2
   unfold spec_CirclesOf.l2
   exact spec_CirclesOf.mq
  ·intro y0 y1 y2 y3
   unfold spec_CirclesOf.l0
   exact spec_CirclesOf.mq
theorem spec_CirclesOf.mono : ∀ a0 a1 k, LeO (spec_CirclesOf.f k a0 a1) (spec_CirclesOf.f (k + 1) a0 a1) := by
 intro a0 a1 k
 obtain ⟨ih0, ih1, ih2, ih3⟩ := spec_CirclesOf.mono_l k
 unfold spec_CirclesOf.f
 exact spec_CirclesOf.mq
theorem dr {p : Prop} (h : p := by repeat (first | (with_reducible first | exact HB.out | apply below_alloc | apply pw_below_drewN | apply below_drew1 | refine below_set ?_ cc6.out) | exact HB.out)) : p := h
set_option maxHeartbeats 8000000 in
set_option maxRecDepth 100000 in
theorem spec_CirclesOf.calls (k : Nat) (ag : Option Addr) (ae : Nat) (ab : List Int) (ah : Option Addr) (af : Nat) (aa : List (List Int)) (r : List (List Int)) (w : World) (dx : Kd.C (Kd.int .i64) w ag ab.length ab) (dy : ab.length ≤ ae) (dz : Kd.C (Kd.slice 3 (Kd.int .i64)) w ah aa.length aa) (d2 : aa.length ≤ af) (h : spec_CirclesOf.f k ab aa = some r) :
  Calls Try.prog 95 #[.agg #[.slice ag ab.length ae, .slice ah aa.length af]] w fun e w' => ∃ v0_ : Value, e = .returned (v0_) ∧ Kd.N (Kd.slice 3 (Kd.int .i64)) 22 w' w.heap.size (fun k_ => (w.heap.size ≤ k_)) v0_ r ∧ Below w.heap.size w w' := by
 have hu25 := Try.underlying25
 have dd := Aside0.mk dx
 have d6 := Aside0.mk dy
 clear dx dy
 have cq := Aside0.mk dz
 have d7 := Aside0.mk d2
 clear dz d2
 have HB := Aside0.mk (Below.refl w.heap.size w)
 have H : (spec_CirclesOf.l0 k (([] : List (List Int))) 0 ab aa) = some r := h
 clear h
 obtain ⟨da4, hy227⟩ : ∃ y_ : List (List Int), y_ = (([] : List (List Int))) := ⟨_, rfl⟩
 replace H : (spec_CirclesOf.l0 k da4 0 ab aa) = some r := by first | (rw [hy227]; with_reducible exact H) | (have H2_ := (Option.bind_some _ _).symm.trans H; rw [hy227]; with_reducible exact H2_) | (have H2_ := (Option.bind_some _ _).symm.trans H; with_reducible exact H2_) | with_reducible exact H | (rw [hy227]; exact H) | exact H
 have ak4 := Aside0.mk hy227
 clear hy227
 have nt := Aside0.mk H
 clear H
 go_enter Try.func95, Try.ntmps95
 go_upto_block 0 with (first | ((with_reducible refine gate_dst (N := 1) rfl ?_); refine bx_ (N := 1) #[.slice ag ab.length ae, .slice ah aa.length af] 25 ?_; intro ax hg w3 hbox hb; have bk := Aside0.mk (hbox); have da5 := Aside0.mk ((g40_ : w.heap.size ≤ ax)); have cc6 := Aside0.mk ((g40_ : w.heap.size ≤ ax)); replace HB := Aside0.mk (below_step (dr) hb); clear hb hbox hg) | ((with_reducible refine gate_dst (N := 8) rfl ?_); refine Kd.N_lit (Kd.slice 3 (Kd.int .i64)) _ 22 ?hg (N' := 8) ?hd (xs := ([] : List (List Int))) (inner := []) (ok := (fun k_ => (w.heap.size ≤ k_) ∧ k_ ≠ ax)) (okp := (fun k_ => (w.heap.size ≤ k_) ∧ k_ ≠ ax)) ?hr ?hp (fun _ hk => hk) ((show ∀ k_, w3.heap.size ≤ k_ → (fun k_ => (w.heap.size ≤ k_) ∧ k_ ≠ ax) k_ from fun k_ hk => ⟨(Nat.le_trans (below_size (dr)) hk), Kd.freshB (g := ax) (o := .cells #[.slice ag ab.length ae, .slice ah aa.length af] 25 (0, 0)) (uf0_ bk) k_ hk⟩) _ (Nat.le_refl _)) (Below.refl _ _) (Nat.le_refl _) (by simp) ?_; (case hd => rfl); (case hg => rfl); (case hr => first | (go_simp; done) | (go_simp; rfl)); (case hp => exact (Reps.none _ _)); intro da6 w4 mh hb hg_ hnew_; clear hg_ hnew_; (first | rw [← ak4.out] at mh | (simp only [Int.reduceToNat] at mh; rw [← ak4.out] at mh)); have cc7 := Aside0.mk (Kd.N_lower mh (below_size (dr))); replace bk := bb_ bk hb; replace HB := Aside0.mk (below_step (dr) hb); clear hb mh))
 repeat (go_quiet (first | ((with_reducible refine gate_dst (N := 1) rfl ?_); refine bx_ (N := 1) #[.slice ag ab.length ae, .slice ah aa.length af] 25 ?_; intro ax hg w3 hbox hb; have bk := Aside0.mk (hbox); have da5 := Aside0.mk ((g40_ : w.heap.size ≤ ax)); have cc6 := Aside0.mk ((g40_ : w.heap.size ≤ ax)); replace HB := Aside0.mk (below_step (dr) hb); clear hb hbox hg) | ((with_reducible refine gate_dst (N := 8) rfl ?_); refine Kd.N_lit (Kd.slice 3 (Kd.int .i64)) _ 22 ?hg (N' := 8) ?hd (xs := ([] : List (List Int))) (inner := []) (ok := (fun k_ => (w.heap.size ≤ k_) ∧ k_ ≠ ax)) (okp := (fun k_ => (w.heap.size ≤ k_) ∧ k_ ≠ ax)) ?hr ?hp (fun _ hk => hk) ((show ∀ k_, w3.heap.size ≤ k_ → (fun k_ => (w.heap.size ≤ k_) ∧ k_ ≠ ax) k_ from fun k_ hk => ⟨(Nat.le_trans (below_size (dr)) hk), Kd.freshB (g := ax) (o := .cells #[.slice ag ab.length ae, .slice ah aa.length af] 25 (0, 0)) (uf0_ bk) k_ hk⟩) _ (Nat.le_refl _)) (Below.refl _ _) (Nat.le_refl _) (by simp) ?_; (case hd => rfl); (case hg => rfl); (case hr => first | (go_simp; done) | (go_simp; rfl)); (case hp => exact (Reps.none _ _)); intro da6 w4 mh hb hg_ hnew_; clear hg_ hnew_; (first | rw [← ak4.out] at mh | (simp only [Int.reduceToNat] at mh; rw [← ak4.out] at mh)); have cc7 := Aside0.mk (Kd.N_lower mh (below_size (dr))); replace bk := bb_ bk hb; replace HB := Aside0.mk (below_step (dr) hb); clear hb mh)); go_upto_block 0 with (first | ((with_reducible refine gate_dst (N := 1) rfl ?_); refine bx_ (N := 1) #[.slice ag ab.length ae, .slice ah aa.length af] 25 ?_; intro ax hg w3 hbox hb; have bk := Aside0.mk (hbox); have da5 := Aside0.mk ((g40_ : w.heap.size ≤ ax)); have cc6 := Aside0.mk ((g40_ : w.heap.size ≤ ax)); replace HB := Aside0.mk (below_step (dr) hb); clear hb hbox hg) | ((with_reducible refine gate_dst (N := 8) rfl ?_); refine Kd.N_lit (Kd.slice 3 (Kd.int .i64)) _ 22 ?hg (N' := 8) ?hd (xs := ([] : List (List Int))) (inner := []) (ok := (fun k_ => (w.heap.size ≤ k_) ∧ k_ ≠ ax)) (okp := (fun k_ => (w.heap.size ≤ k_) ∧ k_ ≠ ax)) ?hr ?hp (fun _ hk => hk) ((show ∀ k_, w3.heap.size ≤ k_ → (fun k_ => (w.heap.size ≤ k_) ∧ k_ ≠ ax) k_ from fun k_ hk => ⟨(Nat.le_trans (below_size (dr)) hk), Kd.freshB (g := ax) (o := .cells #[.slice ag ab.length ae, .slice ah aa.length af] 25 (0, 0)) (uf0_ bk) k_ hk⟩) _ (Nat.le_refl _)) (Below.refl _ _) (Nat.le_refl _) (by simp) ?_; (case hd => rfl); (case hg => rfl); (case hr => first | (go_simp; done) | (go_simp; rfl)); (case hp => exact (Reps.none _ _)); intro da6 w4 mh hb hg_ hnew_; clear hg_ hnew_; (first | rw [← ak4.out] at mh | (simp only [Int.reduceToNat] at mh; rw [← ak4.out] at mh)); have cc7 := Aside0.mk (Kd.N_lower mh (below_size (dr))); replace bk := bb_ bk hb; replace HB := Aside0.mk (below_step (dr) hb); clear hb mh)))
 (try simp only [Act.put, List.setIfInBounds_toArray, List.set_cons_zero, List.set_cons_succ])
 go_cut [3] (fun v3 wc => ∃ (kq : Nat) (ca : List (List Int)), Aside0 (spec_CirclesOf.j1 kq ca = some r) ∧ Aside0 (kq ≤ k) ∧ Aside0 (Kd.N (Kd.slice 3 (Kd.int .i64)) 22 wc w.heap.size (fun k_ => (w.heap.size ≤ k_) ∧ k_ ≠ ax) v3 ca) ∧ Aside0 (wc.heap[ax]? = some (.cells #[(.slice ag ab.length ae), (.slice ah aa.length af)] 25 (0, 0))) ∧ Aside0 (Below w.heap.size w wc))
 case first =>
  have H := nt.out
  clear nt
  have H' := Aside0.mk H
  clear H
  go_wp2
  repeat (go_quiet (fail); try go_wp2)
  go_loopg [3, 4] k (fun kq v3 v4 w' => ∃ (ca : List (List Int)) (an : Int), v4 = .int .i64 an ∧ Aside0 (spec_CirclesOf.l0 kq ca an ab aa = some r) ∧ Aside0 (kq ≤ k) ∧ Aside0 (Kd.N (Kd.slice 3 (Kd.int .i64)) 22 w' w.heap.size (fun k_ => (w.heap.size ≤ k_) ∧ k_ ≠ ax) v3 ca) ∧ Aside0 (w'.heap[ax]? = some (.cells #[(.slice ag ab.length ae), (.slice ah aa.length af)] 25 (0, 0))) ∧ Aside0 (Below w.heap.size w w'))
  case atStart => exact ⟨(da4), (0), (g3_), H', ⟨Nat.le_refl _⟩, ⟨uf4_ cc7⟩, ⟨uf0_ bk⟩, ⟨dr⟩⟩
  case round =>
   clear H'
   try clear p2
   obtain ⟨ca, an, rfl, HA, HK1, ao, bk, HB⟩ := hrel
   cases gk with
   | zero => exact absurd HA.out (by simp [spec_CirclesOf.l0])
   | succ k1 =>
    have H := HA.out
    clear HA
    simp only [spec_CirclesOf.l0] at H
    by_cases c6 : an < (ab.length : Int)
    ·rw [if_pos c6] at H
     have k9 := decide_eq_true c6
     clear c6
     (first | rw [k9] | (simp only [i64_w, i32_w]; rw [k9]) | skip)
     obtain ⟨cc5, A7, H⟩ := bind_ H
     by_cases c8 : cc5 = true
     ·subst c8
      replace H := ifp_ H
      obtain ⟨mi, hy231⟩ : ∃ y_ : List Int, y_ = (([an] : List Int)) := ⟨_, rfl⟩
      replace H : ((spec_l3Paths.f k1 ab aa mi).bind fun pr => (if ca.length + pr.length < 5864062014805 then (spec_CirclesOf.l0 k1 (ca ++ pr) (wrap64 (an + 1)) ab aa) else (none))) = some r := by first | (rw [hy231]; with_reducible exact H) | (have H2_ := (Option.bind_some _ _).symm.trans H; rw [hy231]; with_reducible exact H2_) | (have H2_ := (Option.bind_some _ _).symm.trans H; with_reducible exact H2_) | with_reducible exact H | (rw [hy231]; exact H) | exact H
      have ak5 := Aside0.mk hy231
      clear hy231
      obtain ⟨pr, A9, H⟩ := bind_ H
      obtain ⟨fv, H⟩ := pos_ H
      have cc8 := Aside0.mk fv
      clear fv
      obtain ⟨da7, hy237⟩ : ∃ y_ : List (List Int), y_ = (ca ++ pr) := ⟨_, rfl⟩
      replace H : (spec_CirclesOf.l0 k1 da7 (wrap64 (an + 1)) ab aa) = some r := by first | (rw [hy237]; with_reducible exact H) | (have H2_ := (Option.bind_some _ _).symm.trans H; rw [hy237]; with_reducible exact H2_) | (have H2_ := (Option.bind_some _ _).symm.trans H; with_reducible exact H2_) | with_reducible exact H | (rw [hy237]; exact H) | exact H
      have cc9 := Aside0.mk hy237
      clear hy237
      have H' := Aside0.mk H
      clear H
      obtain ⟨wx, wy, wz, xa⟩ := blk2_ bk
      go_wp2_with (first | (go_at_call 42; (with_reducible refine (spec_BookOk.calls k1 _ _ ab _ _ aa true _ ?side1 ?side2 ?side3 ?side4 A7.out).mono ?_); (case side1 => exact uf1_ dd); (case side2 => exact d6.out); (case side3 => exact uf1_ cq); (case side4 => exact d7.out); rintro e xy ⟨rfl, hb⟩; replace ao := Aside0.mk (Kd.N_below (uf4_ ao) hb); replace bk := bb_ bk hb; replace HB := Aside0.mk (below_step (dr) hb); (try clear hb); (try clear hk hi); obtain ⟨qq, qr, qs, qt⟩ := blk2_ bk) | ((with_reducible refine gate_dst (N := 23) rfl ?_); refine Kd.R_lit (Kd.int .i64) _ 3 ?hg (N := 23) ?hd (xs := ([an] : List Int)) (inner := [.int .i64 an]) (ok := fun _ => True) (okp := fun _ => True) ?hr ?hp (fun _ hk => hk) trivial (Below.refl _ _) (Nat.le_refl _) (by simp) ?_; (case hd => rfl); (case hg => rfl); (case hr => first | (go_simp; done) | (go_simp; rfl)); (case hp => exact (Reps.one (show Kd.M (Kd.int .i64) _ _ _ an [.int .i64 an] from rfl) (Reps.none _ _))); intro da8 w14 la hb hg_ hnew_; clear hg_ hnew_; (first | rw [← ak5.out] at la | (simp only [Int.reduceToNat] at la; rw [← ak5.out] at la)); replace ao := Aside0.mk (Kd.N_elder' (uf4_ ao) (Kd.R_base la) hb); have g4 := Aside0.mk (Kd.R_lower (Kd.R_newM (M := fun k_ => (w.heap.size ≤ k_)) la (below_size (dr)) (fun k_ h_ => h_)) (below_size (dr))); replace bk := bb_ bk hb; replace HB := Aside0.mk (below_step (dr) hb); clear hb la; obtain ⟨n0, n1, at7⟩ := Kd.R_slice g4.out; subst at7) | (go_at_call 113; (with_reducible refine (spec_l3Paths.calls k1 _ _ ab _ _ aa _ _ mi pr _ ?side1 ?side2 ?side3 ?side4 ?side5 ?side6 A9.out).mono ?_); (case side1 => exact uf1_ dd); (case side2 => exact d6.out); (case side3 => exact uf1_ cq); (case side4 => exact d7.out); (case side5 => repeat (first | exact (Kd.R_reads' g4.out).2.2 | (with_reducible refine Kd.C_alloc ?_ _) | (with_reducible refine Kd.C_drewN ?_ _) | (with_reducible refine Kd.C_drew ?_))); (case side6 => exact (Kd.R_reads' g4.out).2.1); rintro e h7 ⟨da9, rfl, am, hb⟩; have tx := Aside0.mk (Kd.N_lower (Kd.N_mono (ok' := fun k_ => (w.heap.size ≤ k_) ∧ some k_ ≠ (u3 : Value).ownBlock ∧ some k_ ≠ (.slice n0 mi.length n1 : Value).ownBlock ∧ k_ ≠ ax) am (fun k_ hk_ => ⟨(Nat.le_trans (below_size (dr)) hk_), (Kd.fresh' (Kd.N_lt (uf4_ ao)) k_ hk_), (Kd.fresh' (Kd.R_lt (uf2_ g4)) k_ hk_), (Kd.freshB (g := ax) (o := .cells #[.slice ag ab.length ae, .slice ah aa.length af] 25 (0, 0)) (uf0_ bk) k_ hk_)⟩)) (below_size (dr))); replace ao := Aside0.mk (Kd.N_elder' (uf4_ ao) (Kd.N_base am) hb); replace g4 := Aside0.mk (Kd.R_below (uf2_ g4) hb); replace bk := bb_ bk hb; replace HB := Aside0.mk (below_step (dr) hb); (try clear hb); (try clear hk hi); (try clear am); obtain ⟨il, gh, ps⟩ := Kd.N_slice tx.out; subst ps) | ((with_reducible refine gate_builtin (b := .append) (xs := #[.tmp 20, .tmp 24]) rfl ?_); at_builtin; refine Kd.N_append_rows (Kd.slice 3 (Kd.int .i64)) (w0 := w) w.heap.size rfl (.tmp 20) (.tmp 24) 23 22 (.slice none 0 0) 24 rfl Try.underlying23 info22 rfl (by decide) (by omega) u3 ca pr _ _ _ (fun k_ => (w.heap.size ≤ k_) ∧ some k_ ≠ (.slice n0 mi.length n1 : Value).ownBlock ∧ k_ ≠ ax) (fun k_ => ((fun k_ => (w.heap.size ≤ k_) ∧ some k_ ≠ (.slice n0 mi.length n1 : Value).ownBlock ∧ k_ ≠ ax)) k_ ∧ some k_ ≠ (u3 : Value).ownBlock) rfl rfl ?aO ?aR (fun _ hk => hk) ?aF ?aB ?aS ?aL ?_; (case aR => exact (g77_)); (case aB => exact (dr)); (case aF => exact (fun k_ hk => ⟨(Nat.le_trans (below_size (dr)) hk), Kd.fresh' (Kd.R_lt (uf2_ g4)) k_ hk, Kd.freshB (g := ax) (o := .cells #[.slice ag ab.length ae, .slice ah aa.length af] 25 (0, 0)) (uf0_ bk) k_ hk⟩)); (case aO => exact (g78_)); (case aS => exact (below_size (dr))); (case aL => have := cc8.out; omega); intro db0 kk ho hb hg hat; rw [← cc9.out] at ho; replace bk := Aside0.mk (blk_grown (g := ax) (o := .cells #[.slice ag ab.length ae, .slice ah aa.length af] 25 (0, 0)) (uf0_ bk) hg (Kd.N_ne ao.out bk.out (by decide))); replace g4 := Aside0.mk (Kd.R_over' (uf2_ g4) (Kd.N_typed (uf4_ ao)) (by decide) hg); replace tx := Aside0.mk (Kd.N_afterv (ok := (fun k_ => (w.heap.size ≤ k_) ∧ some k_ ≠ (.slice n0 mi.length n1 : Value).ownBlock ∧ k_ ≠ ax)) (g79_) hg hat); replace HB := Aside0.mk (hb); have cd0 := Aside0.mk (ho); clear ao; clear ho hb hg hat))
      repeat (go_quiet (first | (go_at_call 42; (with_reducible refine (spec_BookOk.calls k1 _ _ ab _ _ aa true _ ?side1 ?side2 ?side3 ?side4 A7.out).mono ?_); (case side1 => exact uf1_ dd); (case side2 => exact d6.out); (case side3 => exact uf1_ cq); (case side4 => exact d7.out); rintro e xy ⟨rfl, hb⟩; replace ao := Aside0.mk (Kd.N_below (uf4_ ao) hb); replace bk := bb_ bk hb; replace HB := Aside0.mk (below_step (dr) hb); (try clear hb); (try clear hk hi); obtain ⟨qq, qr, qs, qt⟩ := blk2_ bk) | ((with_reducible refine gate_dst (N := 23) rfl ?_); refine Kd.R_lit (Kd.int .i64) _ 3 ?hg (N := 23) ?hd (xs := ([an] : List Int)) (inner := [.int .i64 an]) (ok := fun _ => True) (okp := fun _ => True) ?hr ?hp (fun _ hk => hk) trivial (Below.refl _ _) (Nat.le_refl _) (by simp) ?_; (case hd => rfl); (case hg => rfl); (case hr => first | (go_simp; done) | (go_simp; rfl)); (case hp => exact (Reps.one (show Kd.M (Kd.int .i64) _ _ _ an [.int .i64 an] from rfl) (Reps.none _ _))); intro da8 w14 la hb hg_ hnew_; clear hg_ hnew_; (first | rw [← ak5.out] at la | (simp only [Int.reduceToNat] at la; rw [← ak5.out] at la)); replace ao := Aside0.mk (Kd.N_elder' (uf4_ ao) (Kd.R_base la) hb); have g4 := Aside0.mk (Kd.R_lower (Kd.R_newM (M := fun k_ => (w.heap.size ≤ k_)) la (below_size (dr)) (fun k_ h_ => h_)) (below_size (dr))); replace bk := bb_ bk hb; replace HB := Aside0.mk (below_step (dr) hb); clear hb la; obtain ⟨n0, n1, at7⟩ := Kd.R_slice g4.out; subst at7) | (go_at_call 113; (with_reducible refine (spec_l3Paths.calls k1 _ _ ab _ _ aa _ _ mi pr _ ?side1 ?side2 ?side3 ?side4 ?side5 ?side6 A9.out).mono ?_); (case side1 => exact uf1_ dd); (case side2 => exact d6.out); (case side3 => exact uf1_ cq); (case side4 => exact d7.out); (case side5 => repeat (first | exact (Kd.R_reads' g4.out).2.2 | (with_reducible refine Kd.C_alloc ?_ _) | (with_reducible refine Kd.C_drewN ?_ _) | (with_reducible refine Kd.C_drew ?_))); (case side6 => exact (Kd.R_reads' g4.out).2.1); rintro e h7 ⟨da9, rfl, am, hb⟩; have tx := Aside0.mk (Kd.N_lower (Kd.N_mono (ok' := fun k_ => (w.heap.size ≤ k_) ∧ some k_ ≠ (u3 : Value).ownBlock ∧ some k_ ≠ (.slice n0 mi.length n1 : Value).ownBlock ∧ k_ ≠ ax) am (fun k_ hk_ => ⟨(Nat.le_trans (below_size (dr)) hk_), (Kd.fresh' (Kd.N_lt (uf4_ ao)) k_ hk_), (Kd.fresh' (Kd.R_lt (uf2_ g4)) k_ hk_), (Kd.freshB (g := ax) (o := .cells #[.slice ag ab.length ae, .slice ah aa.length af] 25 (0, 0)) (uf0_ bk) k_ hk_)⟩)) (below_size (dr))); replace ao := Aside0.mk (Kd.N_elder' (uf4_ ao) (Kd.N_base am) hb); replace g4 := Aside0.mk (Kd.R_below (uf2_ g4) hb); replace bk := bb_ bk hb; replace HB := Aside0.mk (below_step (dr) hb); (try clear hb); (try clear hk hi); (try clear am); obtain ⟨il, gh, ps⟩ := Kd.N_slice tx.out; subst ps) | ((with_reducible refine gate_builtin (b := .append) (xs := #[.tmp 20, .tmp 24]) rfl ?_); at_builtin; refine Kd.N_append_rows (Kd.slice 3 (Kd.int .i64)) (w0 := w) w.heap.size rfl (.tmp 20) (.tmp 24) 23 22 (.slice none 0 0) 24 rfl Try.underlying23 info22 rfl (by decide) (by omega) u3 ca pr _ _ _ (fun k_ => (w.heap.size ≤ k_) ∧ some k_ ≠ (.slice n0 mi.length n1 : Value).ownBlock ∧ k_ ≠ ax) (fun k_ => ((fun k_ => (w.heap.size ≤ k_) ∧ some k_ ≠ (.slice n0 mi.length n1 : Value).ownBlock ∧ k_ ≠ ax)) k_ ∧ some k_ ≠ (u3 : Value).ownBlock) rfl rfl ?aO ?aR (fun _ hk => hk) ?aF ?aB ?aS ?aL ?_; (case aR => exact (g77_)); (case aB => exact (dr)); (case aF => exact (fun k_ hk => ⟨(Nat.le_trans (below_size (dr)) hk), Kd.fresh' (Kd.R_lt (uf2_ g4)) k_ hk, Kd.freshB (g := ax) (o := .cells #[.slice ag ab.length ae, .slice ah aa.length af] 25 (0, 0)) (uf0_ bk) k_ hk⟩)); (case aO => exact (g78_)); (case aS => exact (below_size (dr))); (case aL => have := cc8.out; omega); intro db0 kk ho hb hg hat; rw [← cc9.out] at ho; replace bk := Aside0.mk (blk_grown (g := ax) (o := .cells #[.slice ag ab.length ae, .slice ah aa.length af] 25 (0, 0)) (uf0_ bk) hg (Kd.N_ne ao.out bk.out (by decide))); replace g4 := Aside0.mk (Kd.R_over' (uf2_ g4) (Kd.N_typed (uf4_ ao)) (by decide) hg); replace tx := Aside0.mk (Kd.N_afterv (ok := (fun k_ => (w.heap.size ≤ k_) ∧ some k_ ≠ (.slice n0 mi.length n1 : Value).ownBlock ∧ k_ ≠ ax)) (g79_) hg hat); replace HB := Aside0.mk (hb); have cd0 := Aside0.mk (ho); clear ao; clear ho hb hg hat)); try go_wp2_with (first | (go_at_call 42; (with_reducible refine (spec_BookOk.calls k1 _ _ ab _ _ aa true _ ?side1 ?side2 ?side3 ?side4 A7.out).mono ?_); (case side1 => exact uf1_ dd); (case side2 => exact d6.out); (case side3 => exact uf1_ cq); (case side4 => exact d7.out); rintro e xy ⟨rfl, hb⟩; replace ao := Aside0.mk (Kd.N_below (uf4_ ao) hb); replace bk := bb_ bk hb; replace HB := Aside0.mk (below_step (dr) hb); (try clear hb); (try clear hk hi); obtain ⟨qq, qr, qs, qt⟩ := blk2_ bk) | ((with_reducible refine gate_dst (N := 23) rfl ?_); refine Kd.R_lit (Kd.int .i64) _ 3 ?hg (N := 23) ?hd (xs := ([an] : List Int)) (inner := [.int .i64 an]) (ok := fun _ => True) (okp := fun _ => True) ?hr ?hp (fun _ hk => hk) trivial (Below.refl _ _) (Nat.le_refl _) (by simp) ?_; (case hd => rfl); (case hg => rfl); (case hr => first | (go_simp; done) | (go_simp; rfl)); (case hp => exact (Reps.one (show Kd.M (Kd.int .i64) _ _ _ an [.int .i64 an] from rfl) (Reps.none _ _))); intro da8 w14 la hb hg_ hnew_; clear hg_ hnew_; (first | rw [← ak5.out] at la | (simp only [Int.reduceToNat] at la; rw [← ak5.out] at la)); replace ao := Aside0.mk (Kd.N_elder' (uf4_ ao) (Kd.R_base la) hb); have g4 := Aside0.mk (Kd.R_lower (Kd.R_newM (M := fun k_ => (w.heap.size ≤ k_)) la (below_size (dr)) (fun k_ h_ => h_)) (below_size (dr))); replace bk := bb_ bk hb; replace HB := Aside0.mk (below_step (dr) hb); clear hb la; obtain ⟨n0, n1, at7⟩ := Kd.R_slice g4.out; subst at7) | (go_at_call 113; (with_reducible refine (spec_l3Paths.calls k1 _ _ ab _ _ aa _ _ mi pr _ ?side1 ?side2 ?side3 ?side4 ?side5 ?side6 A9.out).mono ?_); (case side1 => exact uf1_ dd); (case side2 => exact d6.out); (case side3 => exact uf1_ cq); (case side4 => exact d7.out); (case side5 => repeat (first | exact (Kd.R_reads' g4.out).2.2 | (with_reducible refine Kd.C_alloc ?_ _) | (with_reducible refine Kd.C_drewN ?_ _) | (with_reducible refine Kd.C_drew ?_))); (case side6 => exact (Kd.R_reads' g4.out).2.1); rintro e h7 ⟨da9, rfl, am, hb⟩; have tx := Aside0.mk (Kd.N_lower (Kd.N_mono (ok' := fun k_ => (w.heap.size ≤ k_) ∧ some k_ ≠ (u3 : Value).ownBlock ∧ some k_ ≠ (.slice n0 mi.length n1 : Value).ownBlock ∧ k_ ≠ ax) am (fun k_ hk_ => ⟨(Nat.le_trans (below_size (dr)) hk_), (Kd.fresh' (Kd.N_lt (uf4_ ao)) k_ hk_), (Kd.fresh' (Kd.R_lt (uf2_ g4)) k_ hk_), (Kd.freshB (g := ax) (o := .cells #[.slice ag ab.length ae, .slice ah aa.length af] 25 (0, 0)) (uf0_ bk) k_ hk_)⟩)) (below_size (dr))); replace ao := Aside0.mk (Kd.N_elder' (uf4_ ao) (Kd.N_base am) hb); replace g4 := Aside0.mk (Kd.R_below (uf2_ g4) hb); replace bk := bb_ bk hb; replace HB := Aside0.mk (below_step (dr) hb); (try clear hb); (try clear hk hi); (try clear am); obtain ⟨il, gh, ps⟩ := Kd.N_slice tx.out; subst ps) | ((with_reducible refine gate_builtin (b := .append) (xs := #[.tmp 20, .tmp 24]) rfl ?_); at_builtin; refine Kd.N_append_rows (Kd.slice 3 (Kd.int .i64)) (w0 := w) w.heap.size rfl (.tmp 20) (.tmp 24) 23 22 (.slice none 0 0) 24 rfl Try.underlying23 info22 rfl (by decide) (by omega) u3 ca pr _ _ _ (fun k_ => (w.heap.size ≤ k_) ∧ some k_ ≠ (.slice n0 mi.length n1 : Value).ownBlock ∧ k_ ≠ ax) (fun k_ => ((fun k_ => (w.heap.size ≤ k_) ∧ some k_ ≠ (.slice n0 mi.length n1 : Value).ownBlock ∧ k_ ≠ ax)) k_ ∧ some k_ ≠ (u3 : Value).ownBlock) rfl rfl ?aO ?aR (fun _ hk => hk) ?aF ?aB ?aS ?aL ?_; (case aR => exact (g77_)); (case aB => exact (dr)); (case aF => exact (fun k_ hk => ⟨(Nat.le_trans (below_size (dr)) hk), Kd.fresh' (Kd.R_lt (uf2_ g4)) k_ hk, Kd.freshB (g := ax) (o := .cells #[.slice ag ab.length ae, .slice ah aa.length af] 25 (0, 0)) (uf0_ bk) k_ hk⟩)); (case aO => exact (g78_)); (case aS => exact (below_size (dr))); (case aL => have := cc8.out; omega); intro db0 kk ho hb hg hat; rw [← cc9.out] at ho; replace bk := Aside0.mk (blk_grown (g := ax) (o := .cells #[.slice ag ab.length ae, .slice ah aa.length af] 25 (0, 0)) (uf0_ bk) hg (Kd.N_ne ao.out bk.out (by decide))); replace g4 := Aside0.mk (Kd.R_over' (uf2_ g4) (Kd.N_typed (uf4_ ao)) (by decide) hg); replace tx := Aside0.mk (Kd.N_afterv (ok := (fun k_ => (w.heap.size ≤ k_) ∧ some k_ ≠ (.slice n0 mi.length n1 : Value).ownBlock ∧ k_ ≠ ax)) (g79_) hg hat); replace HB := Aside0.mk (hb); have cd0 := Aside0.mk (ho); clear ao; clear ho hb hg hat)))
      go_roundg k1
      case measure => have := HK1.out; omega
      case rel => exact ⟨(da7), (wrap64 (an + 1)), (g3_), H', ⟨g15_⟩, ⟨by (with_reducible repeat (first | apply Kd.N_alloc | apply Kd.N_drewN | apply Kd.N_drew)); exact Kd.N_mono cd0.out (fun _ hk => ⟨hk.1, hk.2.2⟩)⟩, ⟨uf0_ bk⟩, ⟨dr⟩⟩
     ·replace c8 := Bool.eq_false_iff.mpr c8
      subst c8
      replace H := ifn_ H
      have H' := Aside0.mk H
      clear H
      obtain ⟨bg4, bg5, bg6, bg7⟩ := blk2_ bk
      go_wp2_with (first | (go_at_call 42; (with_reducible refine (spec_BookOk.calls k1 _ _ ab _ _ aa false _ ?side1 ?side2 ?side3 ?side4 A7.out).mono ?_); (case side1 => exact uf1_ dd); (case side2 => exact d6.out); (case side3 => exact uf1_ cq); (case side4 => exact d7.out); rintro e f9 ⟨rfl, hb⟩; replace ao := Aside0.mk (Kd.N_below (uf4_ ao) hb); replace bk := bb_ bk hb; replace HB := Aside0.mk (below_step (dr) hb); (try clear hb); (try clear hk hi)))
      repeat (go_quiet (first | (go_at_call 42; (with_reducible refine (spec_BookOk.calls k1 _ _ ab _ _ aa false _ ?side1 ?side2 ?side3 ?side4 A7.out).mono ?_); (case side1 => exact uf1_ dd); (case side2 => exact d6.out); (case side3 => exact uf1_ cq); (case side4 => exact d7.out); rintro e f9 ⟨rfl, hb⟩; replace ao := Aside0.mk (Kd.N_below (uf4_ ao) hb); replace bk := bb_ bk hb; replace HB := Aside0.mk (below_step (dr) hb); (try clear hb); (try clear hk hi))); try go_wp2_with (first | (go_at_call 42; (with_reducible refine (spec_BookOk.calls k1 _ _ ab _ _ aa false _ ?side1 ?side2 ?side3 ?side4 A7.out).mono ?_); (case side1 => exact uf1_ dd); (case side2 => exact d6.out); (case side3 => exact uf1_ cq); (case side4 => exact d7.out); rintro e f9 ⟨rfl, hb⟩; replace ao := Aside0.mk (Kd.N_below (uf4_ ao) hb); replace bk := bb_ bk hb; replace HB := Aside0.mk (below_step (dr) hb); (try clear hb); (try clear hk hi))))
      go_meet
      case rel => exact ⟨_, (ca), H', ⟨by have := HK1.out; first | omega | exact Nat.le_refl _⟩, ⟨uf4_ ao⟩, ⟨uf0_ bk⟩, ⟨dr⟩⟩
    ·rw [if_neg c6] at H
     have k9 := decide_eq_false c6
     clear c6
     (first | rw [k9] | (simp only [i64_w, i32_w]; rw [k9]) | skip)
     have H' := Aside0.mk H
     clear H
     obtain ⟨ut, uu, uv, uw⟩ := blk2_ bk
     go_wp2
     repeat (go_quiet (fail); try go_wp2)
     go_meet
     case rel => exact ⟨_, (ca), H', ⟨by have := HK1.out; first | omega | exact Nat.le_refl _⟩, ⟨uf4_ ao⟩, ⟨uf0_ bk⟩, ⟨dr⟩⟩
 case rest =>
  clear nt
  try clear c1
  try clear p2
  try clear c6
  try clear k9
  try clear p6
  try clear c8
  try clear c9
  try clear fv
  try clear wx
  try clear wy
  try clear qq
  try clear qr
  try clear bg4
  try clear bg5
  try clear ut
  try clear uu
  try clear wz
  try clear xa
  try clear qs
  try clear qt
  try clear bg6
  try clear bg7
  try clear uv
  try clear uw
  try clear p2
  obtain ⟨kq, ca, HA, HJ1, ao, bk, HB⟩ := hcut
  cases kq with
  | zero => exact absurd HA.out (by simp [spec_CirclesOf.j1])
  | succ kj1 =>
   have H := HA.out
   clear HA
   simp only [spec_CirclesOf.j1] at H
   have H' := Aside0.mk H
   clear H
   go_wp2
   repeat (go_quiet (fail); try go_wp2)
   go_loopg [5] kj1 (fun kq v5 w' => ∃ (bx : List (List Int)) (a8 : Int), v5 = .int .i64 a8 ∧ Aside0 (spec_CirclesOf.l1 kq bx a8 = some r) ∧ Aside0 (kq ≤ kj1) ∧ Aside0 (Kd.N (Kd.slice 3 (Kd.int .i64)) 22 w' w.heap.size (fun k_ => (w.heap.size ≤ k_) ∧ k_ ≠ ax) u3 bx) ∧ Aside0 (w'.heap[ax]? = some (.cells #[(.slice ag ab.length ae), (.slice ah aa.length af)] 25 (0, 0))) ∧ Aside0 (Below w.heap.size w w'))
   case atStart => exact ⟨(ca), (1), (g3_), H', ⟨Nat.le_refl _⟩, ⟨uf4_ ao⟩, ⟨uf0_ bk⟩, ⟨dr⟩⟩
   case round =>
    clear H'
    try clear c1
    try clear p2
    try clear c6
    try clear k9
    try clear p6
    try clear c8
    try clear c9
    try clear fv
    try clear wx
    try clear wy
    try clear qq
    try clear qr
    try clear bg4
    try clear bg5
    try clear ut
    try clear uu
    try clear wz
    try clear xa
    try clear qs
    try clear qt
    try clear bg6
    try clear bg7
    try clear uv
    try clear uw
    try clear p2
    try clear p6
    obtain ⟨bx, a8, rfl, HA, HK2, ao, bk, HB⟩ := hrel
    cases gk with
    | zero => exact absurd HA.out (by simp [spec_CirclesOf.l1])
    | succ k2 =>
     have H := HA.out
     clear HA
     simp only [spec_CirclesOf.l1] at H
     by_cases jo : a8 < (bx.length : Int)
     ·rw [if_pos jo] at H
      have ag8 := decide_eq_true jo
      clear jo
      have H' := Aside0.mk H
      clear H
      obtain ⟨tm, ck, ai5⟩ := Kd.N_slice ao.out
      subst ai5
      go_wp2
      repeat (go_quiet (fail); try go_wp2)
      go_loopg [6] k2 (fun kq v6 w' => ∃ (aj : List (List Int)) (bs : Int), v6 = .int .i64 bs ∧ Aside0 (spec_CirclesOf.l2 kq aj a8 bs = some r) ∧ Aside0 (kq ≤ k2) ∧ Aside0 (Kd.N (Kd.slice 3 (Kd.int .i64)) 22 w' w.heap.size (fun k_ => (w.heap.size ≤ k_) ∧ k_ ≠ ax) (.slice tm bx.length ck) aj) ∧ Aside0 (w'.heap[ax]? = some (.cells #[(.slice ag ab.length ae), (.slice ah aa.length af)] 25 (0, 0))) ∧ Aside0 (Below w.heap.size w w'))
      case atStart => exact ⟨(bx), (a8), (g3_), H', ⟨Nat.le_refl _⟩, ⟨uf4_ ao⟩, ⟨uf0_ bk⟩, ⟨dr⟩⟩
      case round =>
       clear H'
       (try clear c1); (try clear c2); (try clear p2); (try clear c6); (try clear k9); (try clear p6); (try clear c8); (try clear c9); (try clear fv); (try clear jo); (try clear ag8); (try clear wx); (try clear wy); (try clear qq); (try clear qr); (try clear bg4); (try clear bg5); (try clear ut); (try clear uu); (try clear wz); (try clear xa); (try clear qs); (try clear qt); (try clear bg6); (try clear bg7); (try clear uv); (try clear uw); (try clear p2); try clear p6
       obtain ⟨aj, bs, rfl, HA, HK3, ao, bk, HB⟩ := hrel
       have yr := (Kd.N_reads' ao.out).1
       rw [yr] at ao
       (try simp only [yr])
       (try simp only [yr] at bk)
       cases gk with
       | zero => exact absurd HA.out (by simp [spec_CirclesOf.l2])
       | succ k3 =>
        have H := HA.out
        clear HA
        simp only [spec_CirclesOf.l2] at H
        by_cases lg : bs > 0
        ·rw [if_pos lg] at H
         have be1 := decide_eq_true lg
         clear lg
         obtain ⟨r8, H⟩ := pos_ H
         have cu3 := decide_eq_true r8
         clear r8
         obtain ⟨ij, H⟩ := pos_ H
         have as2 := decide_eq_true ij
         clear ij
         obtain ⟨ji28, hji28⟩ : ∃ j_ : Int, (wrap64 (bs - 1)) = j_ := ⟨_, rfl⟩
         replace H : (if 0 ≤ (ji28) then (if (ji28) < (aj.length : Int) then ((spec_l3Before.f k3 (rd_L1 aj bs) (rd_L1 aj (ji28))).bind fun at6 => (if at6 = true then (spec_CirclesOf.l2 k3 ((aj.set (bs : Int).toNat (rd_L1 aj (ji28))).set ((ji28) : Int).toNat (rd_L1 aj bs)) a8 ji28) else (spec_CirclesOf.l1 k3 aj (wrap64 (a8 + 1))))) else (none)) else (none)) = some r := by first | (rw [hji28] at H; exact H) | (simp only [hji28] at H ⊢; exact H)
         have hji28w : (IntKind.i64.wrap (bs - 1)) = ji28 := (i64_w _).trans hji28
         obtain ⟨pt, H⟩ := pos_ H
         have ek5 := decide_eq_true pt
         clear pt
         obtain ⟨m8, H⟩ := pos_ H
         have as3 := decide_eq_true m8
         clear m8
         obtain ⟨at6, ys, H⟩ := bind_ H
         by_cases ov : at6 = true
         ·subst ov
          replace H := ifp_ H
          obtain ⟨sc, hy245⟩ : ∃ y_ : List (List Int), y_ = (aj.set (bs : Int).toNat (rd_L1 aj (ji28))) := ⟨_, rfl⟩
          replace H : (spec_CirclesOf.l2 k3 (sc.set ((ji28) : Int).toNat (rd_L1 aj bs)) a8 ji28) = some r := by first | (rw [hy245]; with_reducible exact H) | (have H2_ := (Option.bind_some _ _).symm.trans H; rw [hy245]; with_reducible exact H2_) | (have H2_ := (Option.bind_some _ _).symm.trans H; with_reducible exact H2_) | with_reducible exact H | (rw [hy245]; exact H) | exact H
          have cd1 := Aside0.mk hy245
          clear hy245
          obtain ⟨at8, hy246⟩ : ∃ y_ : List (List Int), y_ = (sc.set ((ji28) : Int).toNat (rd_L1 aj bs)) := ⟨_, rfl⟩
          replace H : (spec_CirclesOf.l2 k3 at8 a8 ji28) = some r := by first | (rw [hy246]; with_reducible exact H) | (have H2_ := (Option.bind_some _ _).symm.trans H; rw [hy246]; with_reducible exact H2_) | (have H2_ := (Option.bind_some _ _).symm.trans H; with_reducible exact H2_) | with_reducible exact H | (rw [hy246]; exact H) | exact H
          have cd2 := Aside0.mk hy246
          clear hy246
          have H' := Aside0.mk H
          clear H
          have vi : 0 ≤ (bs : Int) := of_decide_eq_true (g0_)
          have vj : bs < (aj.length : Int) := of_decide_eq_true (g0_)
          obtain ⟨vk, ty, tz, cd3, vl, at9, au0⟩ := at_L1 (Kd.N_reads' ao.out).2.2 bs vi vj
          cases cd3
          obtain ⟨ce240, hce240, hMe240, hcc240⟩ := Kd.N_get ao.out [] bs vi (by first | exact vj | exact of_decide_eq_true (g0_) | (have e_ := (Kd.N_reads' ao.out).1; omega))
          obtain ⟨ua240_0, uc240_0, rfl, ul240_0, ge240_0⟩ := Kd.FK_slice_open hMe240
          have hv240_0 := hcc240 0 _ rfl
          rw [Nat.add_zero, show ((Kd.slice 3 (Kd.int .i64))).sz = 1 from rfl, Nat.mul_one] at hv240_0
          replace hv240_0 := Option.some.inj (hv240_0.symm.trans vl)
          injection hv240_0 with hva_ hvn_ hvc_
          rw [hva_] at ge240_0
          rw [hvc_] at ul240_0
          have i9 := Aside0.mk (show Kd.V (Kd.int .i64) 3 _ w.heap.size _ _ (rd_L1 aj bs) from Kd.V_mk ul240_0 ge240_0)
          clear hva_ hvn_ hvc_ ge240_0 ul240_0
          clear hcc240 hce240
          have cd4 := Aside0.mk au0
          have ad3 := Aside0.mk at9
          clear au0 at9
          replace vi := eq_true vi
          replace vj := eq_true vj
          have vm : 0 ≤ ((ji28) : Int) := of_decide_eq_true (g0_)
          have vn : (ji28) < (aj.length : Int) := of_decide_eq_true (g0_)
          obtain ⟨cd5, t0, t1, cd6, vo, au1, au2⟩ := at_L1 (Kd.N_reads' ao.out).2.2 (ji28) vm vn
          obtain rfl : vk = cd5 := (by injection cd6)
          obtain ⟨ce241, hce241, hMe241, hcc241⟩ := Kd.N_get ao.out [] (ji28) vm (by first | exact vn | exact of_decide_eq_true (g0_) | (have e_ := (Kd.N_reads' ao.out).1; omega))
          obtain ⟨ua241_0, uc241_0, rfl, ul241_0, ge241_0⟩ := Kd.FK_slice_open hMe241
          have hv241_0 := hcc241 0 _ rfl
          rw [Nat.add_zero, show ((Kd.slice 3 (Kd.int .i64))).sz = 1 from rfl, Nat.mul_one] at hv241_0
          replace hv241_0 := Option.some.inj (hv241_0.symm.trans vo)
          injection hv241_0 with hva_ hvn_ hvc_
          rw [hva_] at ge241_0
          rw [hvc_] at ul241_0
          have ja := Aside0.mk (show Kd.V (Kd.int .i64) 3 _ w.heap.size _ _ (rd_L1 aj (ji28)) from Kd.V_mk ul241_0 ge241_0)
          clear hva_ hvn_ hvc_ ge241_0 ul241_0
          clear hcc241 hce241
          have cd7 := Aside0.mk au2
          have ad4 := Aside0.mk au1
          clear au2 au1
          replace vm := eq_true vm
          replace vn := eq_true vn
          go_wp2_with (first | (go_at_call 114; (with_reducible refine (spec_l3Before.calls k3 _ _ (rd_L1 aj bs) _ _ (rd_L1 aj (ji28)) true _ ?side1 ?side2 ?side3 ?side4 ys.out).mono ?_); (case side1 => repeat (first | exact (g41_) | (with_reducible refine Kd.C_alloc ?_ _) | (with_reducible refine Kd.C_drewN ?_ _) | (with_reducible refine Kd.C_drew ?_))); (case side2 => exact ad3.out); (case side3 => repeat (first | exact (g42_) | (with_reducible refine Kd.C_alloc ?_ _) | (with_reducible refine Kd.C_drewN ?_ _) | (with_reducible refine Kd.C_drew ?_))); (case side4 => exact ad4.out); rintro e w' ⟨rfl, ⟨nd, rfl⟩⟩; (try first | exact ⟨rfl, _, World.drewN_drewN _ _ _⟩ | exact ⟨rfl, _, Eq.trans (World.drewN_drewN _ _ _) (congrArg (World.drewN _) (Nat.add_assoc _ _ _))⟩); have ow : 0 ≤ (bs : Int) := of_decide_eq_true (g0_); have qx : bs < (aj.length : Int) := of_decide_eq_true (g0_); obtain ⟨au3, db1, db2, au4, sd, yt, yu⟩ := at_L1 (Kd.N_reads' ao.out).2.2 bs ow qx; obtain rfl : vk = au3 := (by injection au4); obtain ⟨ce243, hce243, hMe243, hcc243⟩ := Kd.N_get ao.out [] bs ow (g80_); obtain ⟨ua243_0, uc243_0, rfl, ul243_0, ge243_0⟩ := Kd.FK_slice_open hMe243; have hv243_0 := hcc243 0 _ rfl; rw [Nat.add_zero, show ((Kd.slice 3 (Kd.int .i64))).sz = 1 from rfl, Nat.mul_one] at hv243_0; replace hv243_0 := Option.some.inj (hv243_0.symm.trans sd); injection hv243_0 with hva_ hvn_ hvc_; rw [hva_] at ge243_0; rw [hvc_] at ul243_0; have fg := Aside0.mk (show Kd.V (Kd.int .i64) 3 _ w.heap.size _ _ (rd_L1 aj bs) from Kd.V_mk ul243_0 ge243_0); clear hva_ hvn_ hvc_ ge243_0 ul243_0; clear hcc243 hce243; have db3 := Aside0.mk yu; have db4 := Aside0.mk yt; clear yu yt; replace ow := eq_true ow; replace qx := eq_true qx; have ea_ := Option.some.inj (vl.symm.trans sd); injection ea_ with ea_ en_ ec_; subst ea_; subst ec_; clear en_; have ox : 0 ≤ ((ji28) : Int) := of_decide_eq_true (g0_); have qy : (ji28) < (aj.length : Int) := of_decide_eq_true (g0_); obtain ⟨au5, db5, db6, au6, se, yv, yw⟩ := at_L1 (Kd.N_reads' ao.out).2.2 (ji28) ox qy; obtain rfl : vk = au5 := (by injection au6); obtain ⟨ce244, hce244, hMe244, hcc244⟩ := Kd.N_get ao.out [] (ji28) ox (g81_); obtain ⟨ua244_0, uc244_0, rfl, ul244_0, ge244_0⟩ := Kd.FK_slice_open hMe244; have hv244_0 := hcc244 0 _ rfl; rw [Nat.add_zero, show ((Kd.slice 3 (Kd.int .i64))).sz = 1 from rfl, Nat.mul_one] at hv244_0; replace hv244_0 := Option.some.inj (hv244_0.symm.trans se); injection hv244_0 with hva_ hvn_ hvc_; rw [hva_] at ge244_0; rw [hvc_] at ul244_0; have fh := Aside0.mk (show Kd.V (Kd.int .i64) 3 _ w.heap.size _ _ (rd_L1 aj (ji28)) from Kd.V_mk ul244_0 ge244_0); clear hva_ hvn_ hvc_ ge244_0 ul244_0; clear hcc244 hce244; have db7 := Aside0.mk yw; have db8 := Aside0.mk yv; clear yw yv; replace ox := eq_true ox; replace qy := eq_true qy; have ea_ := Option.some.inj (vo.symm.trans se); injection ea_ with ea_ en_ ec_; subst ea_; subst ec_; clear en_; have qz : 0 ≤ (bs : Int) := of_decide_eq_true (g0_); have q0 : (bs : Int) < ((aj.length : Int) : Int) := of_decide_eq_true (g0_); obtain ⟨be, db9, yx, yy, gl33, cl33, HG33⟩ := Kd.N_form ao.out (by omega); (first | cases yx | (injection yx with ea_ en_ ec_; (first | subst ea_ | (injection ea_ with ea_; subst ea_)); subst ec_; clear en_)); have GB33 := Aside0.mk yy; have GG33 := Aside0.mk HG33; clear yy gl33 HG33; (first | simp only [add_plain] at vl | skip); (first | simp only [add_plain] at vo | skip); (first | simp only [add_plain] at sd | skip); (first | simp only [add_plain] at se | skip); obtain ⟨ce33, hcl33, hM33, hcc33, hfr33⟩ := Kd.N_elem ao.out [] (bs : Int) qz q0; obtain ⟨ua33_0, uc33_0, rfl, ul33_0, ge33_0⟩ := Kd.FK_slice_open hM33; have au7 := hcc33 0 _ rfl; have hf33_0 := hfr33 0; (try simp only [show ((Kd.slice 3 (Kd.int .i64))).sz = 1 from rfl, Nat.mul_one, Nat.add_zero] at au7); (try simp only [show ((Kd.slice 3 (Kd.int .i64))).sz = 1 from rfl, Nat.mul_one, Nat.add_zero] at hf33_0); clear hcl33 hcc33 hfr33 hM33; replace qz := eq_true qz; replace q0 := eq_true q0; have HX35 := Aside0.mk (show Kd.N (Kd.slice 3 (Kd.int .i64)) 22 wr w.heap.size (fun k_ => (w.heap.size ≤ k_) ∧ k_ ≠ ax) (.slice (some ⟨be, 0, none⟩) aj.length ck) aj from (uf4_ ao)); obtain ⟨ce35, hcl35, hM35, hcc35, hfr35⟩ := Kd.N_elem HX35.out [] (bs : Int) (of_decide_eq_true (g0_)) (by have h_ : (bs : Int) < ((aj.length : Int) : Int) := of_decide_eq_true (g0_); first | exact h_ | (have e_ := (Kd.N_reads' ao.out).1; omega) | simpa using h_); obtain ⟨ua35_0, uc35_0, rfl, ul35_0, ge35_0⟩ := Kd.FK_slice_open hM35; have HP35 := Kd.N_seg HX35.out (bs : Int) (of_decide_eq_true (g0_)) (by have h_ : (bs : Int) < ((aj.length : Int) : Int) := of_decide_eq_true (g0_); first | exact h_ | (have e_ := (Kd.N_reads' ao.out).1; omega) | simpa using h_) (seg := [.slice t0 (rd_L1 aj (ji28)).length t1]) (j := 0) hcl35 hcc35 (show 1 ≤ 1 from by decide) (x' := rd_L1 aj (ji28)) (Kd.FK_slice_mk (Kd.V_reads' (Kd.V_mono (ok' := (fun k_ => ((fun k_ => (w.heap.size ≤ k_) ∧ k_ ≠ ax)) k_ ∧ k_ ≠ be)) (fh.out) (fun k_ hk => ⟨⟨hk.1.1, hk.1.2⟩, fun e_ => (hk.2) (g5_)⟩))).2.1 (Kd.V_F (Kd.V_mono (ok' := (fun k_ => ((fun k_ => (w.heap.size ≤ k_) ∧ k_ ≠ ax)) k_ ∧ k_ ≠ be)) (fh.out) (fun k_ hk => ⟨⟨hk.1.1, hk.1.2⟩, fun e_ => (hk.2) (g5_)⟩)))) (fun _ hk => hk); have pj := hcc35 0 _ rfl; (try simp only [show ((Kd.slice 3 (Kd.int .i64))).sz = 1 from rfl, Nat.mul_one, Nat.add_zero] at pj); have hf35_0 := hfr35 0; (try simp only [show ((Kd.slice 3 (Kd.int .i64))).sz = 1 from rfl, Nat.mul_one, Nat.add_zero] at hf35_0); clear hcl35 hcc35 hfr35 hM35; (try simp only [show ((Kd.slice 3 (Kd.int .i64))).sz = 1 from rfl, Nat.mul_one, Nat.add_zero] at HP35); (try simp only [show ((Kd.slice 3 (Kd.int .i64))).sz = 1 from rfl, Nat.mul_one, Nat.add_zero] at HP35)) | ((with_reducible refine gate_store (t := 22) (p := 60) rfl ?_); (try (rw [drewN_self wr]; generalize hq_ : World.drewN wr _ = wr; replace ao := Aside0.mk (Kd.N_at hq_ ao.out); replace i9 := Aside0.mk (spec_CirclesOf.V_atq hq_ i9.out); replace ja := Aside0.mk (spec_CirclesOf.V_atq hq_ ja.out); replace fg := Aside0.mk (spec_CirclesOf.V_atq hq_ fg.out); replace fh := Aside0.mk (spec_CirclesOf.V_atq hq_ fh.out); replace bk := Aside0.mk (blk_at hq_ bk.out); replace HB := Aside0.mk (below_at hq_ HB.out); clear hq_; (try (have HX35 := Aside0.mk (show Kd.N (Kd.slice 3 (Kd.int .i64)) 22 wr w.heap.size (fun k_ => (w.heap.size ≤ k_) ∧ k_ ≠ ax) (.slice (some ⟨be, 0, none⟩) aj.length ck) aj from (uf4_ ao)))); (try (obtain ⟨ce35, hcl35, hM35, hcc35, hfr35⟩ := Kd.N_elem HX35.out [] (bs : Int) (of_decide_eq_true (g0_)) (by have h_ : (bs : Int) < ((aj.length : Int) : Int) := of_decide_eq_true (g0_); first | exact h_ | (have e_ := (Kd.N_reads' ao.out).1; omega) | simpa using h_))); (try (obtain ⟨ua35_0, uc35_0, rfl, ul35_0, ge35_0⟩ := Kd.FK_slice_open hM35)); (try (have HP35 := Kd.N_seg HX35.out (bs : Int) (of_decide_eq_true (g0_)) (by have h_ : (bs : Int) < ((aj.length : Int) : Int) := of_decide_eq_true (g0_); first | exact h_ | (have e_ := (Kd.N_reads' ao.out).1; omega) | simpa using h_) (seg := [.slice t0 (rd_L1 aj (ji28)).length t1]) (j := 0) hcl35 hcc35 (show 1 ≤ 1 from by decide) (x' := rd_L1 aj (ji28)) (Kd.FK_slice_mk (Kd.V_reads' (Kd.V_mono (ok' := (fun k_ => ((fun k_ => (w.heap.size ≤ k_) ∧ k_ ≠ ax)) k_ ∧ k_ ≠ be)) (fh.out) (fun k_ hk => ⟨⟨hk.1.1, hk.1.2⟩, fun e_ => (hk.2) (g5_)⟩))).2.1 (Kd.V_F (Kd.V_mono (ok' := (fun k_ => ((fun k_ => (w.heap.size ≤ k_) ∧ k_ ≠ ax)) k_ ∧ k_ ≠ be)) (fh.out) (fun k_ hk => ⟨⟨hk.1.1, hk.1.2⟩, fun e_ => (hk.2) (g5_)⟩)))) (fun _ hk => hk))); (try (have pj := hcc35 0 _ rfl)); (try (try simp only [show ((Kd.slice 3 (Kd.int .i64))).sz = 1 from rfl, Nat.mul_one, Nat.add_zero] at pj)); (try (have hf35_0 := hfr35 0)); (try (try simp only [show ((Kd.slice 3 (Kd.int .i64))).sz = 1 from rfl, Nat.mul_one, Nat.add_zero] at hf35_0)); (try (clear hcl35 hcc35 hfr35 hM35)); (try (try simp only [show ((Kd.slice 3 (Kd.int .i64))).sz = 1 from rfl, Nat.mul_one, Nat.add_zero] at HP35)); (try (try simp only [show ((Kd.slice 3 (Kd.int .i64))).sz = 1 from rfl, Nat.mul_one, Nat.add_zero] at HP35)))); refine store_event (t := 22) (p := 60) (v := ?vo_w36) (w1 := (wr.setCell ⟨be, (bs : Int).toNat, none⟩ (.slice t0 (rd_L1 aj (ji28)).length t1))) ?hg ?ho ?hn ?hr ?_; (case ho => rfl); (case hg => rfl); (case hn => rfl); (case hr => first | (go_simp; done) | (go_simp; rfl)); intro fw hw; have hg : wr.grownBy fw (some be) := (by rw [hw]; exact HP35.2); have hp_ : Kd.N (Kd.slice 3 (Kd.int .i64)) 22 fw w.heap.size (fun k_ => (w.heap.size ≤ k_) ∧ k_ ≠ ax) (.slice (some ⟨be, 0, none⟩) aj.length ck) sc := (by rw [hw, cd1.out]; exact HP35.1); clear HP35; replace bk := Aside0.mk (blk_grown (g := ax) (o := .cells #[.slice ag ab.length ae, .slice ah aa.length af] 25 (0, 0)) (uf0_ bk) hg (Kd.N_ne ao.out bk.out (by decide))); replace ao := Aside0.mk (hp_); replace i9 := Aside0.mk (Kd.V_afterv (v := (.slice (some ⟨be, 0, none⟩) aj.length ck)) (v1 := (.slice (some ⟨be, 0, none⟩) aj.length ck)) (ok := (fun k_ => (w.heap.size ≤ k_) ∧ k_ ≠ ax)) (uf5_ i9) hg (.inl rfl)); replace ja := Aside0.mk (Kd.V_afterv (v := (.slice (some ⟨be, 0, none⟩) aj.length ck)) (v1 := (.slice (some ⟨be, 0, none⟩) aj.length ck)) (ok := (fun k_ => (w.heap.size ≤ k_) ∧ k_ ≠ ax)) (uf5_ ja) hg (.inl rfl)); replace fg := Aside0.mk (Kd.V_afterv (v := (.slice (some ⟨be, 0, none⟩) aj.length ck)) (v1 := (.slice (some ⟨be, 0, none⟩) aj.length ck)) (ok := (fun k_ => (w.heap.size ≤ k_) ∧ k_ ≠ ax)) (uf5_ fg) hg (.inl rfl)); replace fh := Aside0.mk (Kd.V_afterv (v := (.slice (some ⟨be, 0, none⟩) aj.length ck)) (v1 := (.slice (some ⟨be, 0, none⟩) aj.length ck)) (ok := (fun k_ => (w.heap.size ≤ k_) ∧ k_ ≠ ax)) (uf5_ fh) hg (.inl rfl)); replace HB := Aside0.mk ((g43_ : Below w.heap.size w fw)); clear hg hw hp_; have sf : 0 ≤ ((ji28) : Int) := of_decide_eq_true (g0_); have sg : ((ji28) : Int) < ((aj.length : Int) : Int) := of_decide_eq_true (g0_); obtain ⟨ce34, hcl34, hM34, hcc34, hfr34⟩ := Kd.N_elem ao.out [] ((ji28) : Int) sf sg; obtain ⟨ua34_0, uc34_0, rfl, ul34_0, ge34_0⟩ := Kd.FK_slice_open hM34; have au8 := hcc34 0 _ rfl; have hf34_0 := hfr34 0; (try simp only [show ((Kd.slice 3 (Kd.int .i64))).sz = 1 from rfl, Nat.mul_one, Nat.add_zero] at au8); (try simp only [show ((Kd.slice 3 (Kd.int .i64))).sz = 1 from rfl, Nat.mul_one, Nat.add_zero] at hf34_0); clear hcl34 hcc34 hfr34 hM34; replace sf := eq_true sf; replace sg := eq_true sg; have HX37 := Aside0.mk (show Kd.N (Kd.slice 3 (Kd.int .i64)) 22 fw w.heap.size (fun k_ => (w.heap.size ≤ k_) ∧ k_ ≠ ax) (.slice (some ⟨be, 0, none⟩) aj.length ck) sc from (uf4_ ao)); obtain ⟨ce37, hcl37, hM37, hcc37, hfr37⟩ := Kd.N_elem HX37.out [] ((ji28) : Int) (of_decide_eq_true (g0_)) (by have h_ : ((ji28) : Int) < ((aj.length : Int) : Int) := of_decide_eq_true (g0_); first | exact h_ | (have e_ := (Kd.N_reads' ao.out).1; omega) | simpa using h_); obtain ⟨ua37_0, uc37_0, rfl, ul37_0, ge37_0⟩ := Kd.FK_slice_open hM37; have HP37 := Kd.N_seg HX37.out ((ji28) : Int) (of_decide_eq_true (g0_)) (by have h_ : ((ji28) : Int) < ((aj.length : Int) : Int) := of_decide_eq_true (g0_); first | exact h_ | (have e_ := (Kd.N_reads' ao.out).1; omega) | simpa using h_) (seg := [.slice ty (rd_L1 aj bs).length tz]) (j := 0) hcl37 hcc37 (show 1 ≤ 1 from by decide) (x' := rd_L1 aj bs) (Kd.FK_slice_mk (Kd.V_reads' (Kd.V_mono (ok' := (fun k_ => ((fun k_ => (w.heap.size ≤ k_) ∧ k_ ≠ ax)) k_ ∧ k_ ≠ be)) (fg.out) (fun k_ hk => ⟨⟨hk.1.1, hk.1.2⟩, fun e_ => (hk.2) (g5_)⟩))).2.1 (Kd.V_F (Kd.V_mono (ok' := (fun k_ => ((fun k_ => (w.heap.size ≤ k_) ∧ k_ ≠ ax)) k_ ∧ k_ ≠ be)) (fg.out) (fun k_ hk => ⟨⟨hk.1.1, hk.1.2⟩, fun e_ => (hk.2) (g5_)⟩)))) (fun _ hk => hk); have sh := hcc37 0 _ rfl; (try simp only [show ((Kd.slice 3 (Kd.int .i64))).sz = 1 from rfl, Nat.mul_one, Nat.add_zero] at sh); have hf37_0 := hfr37 0; (try simp only [show ((Kd.slice 3 (Kd.int .i64))).sz = 1 from rfl, Nat.mul_one, Nat.add_zero] at hf37_0); clear hcl37 hcc37 hfr37 hM37; (try simp only [show ((Kd.slice 3 (Kd.int .i64))).sz = 1 from rfl, Nat.mul_one, Nat.add_zero] at HP37); (try simp only [show ((Kd.slice 3 (Kd.int .i64))).sz = 1 from rfl, Nat.mul_one, Nat.add_zero] at HP37)) | ((with_reducible refine gate_store (t := 22) (p := 65) rfl ?_); (try (rw [drewN_self fw]; generalize hq_ : World.drewN fw _ = fw; replace ao := Aside0.mk (Kd.N_at hq_ ao.out); replace i9 := Aside0.mk (spec_CirclesOf.V_atq hq_ i9.out); replace ja := Aside0.mk (spec_CirclesOf.V_atq hq_ ja.out); replace fg := Aside0.mk (spec_CirclesOf.V_atq hq_ fg.out); replace fh := Aside0.mk (spec_CirclesOf.V_atq hq_ fh.out); replace bk := Aside0.mk (blk_at hq_ bk.out); replace HB := Aside0.mk (below_at hq_ HB.out); clear hq_; (try (have HX37 := Aside0.mk (show Kd.N (Kd.slice 3 (Kd.int .i64)) 22 fw w.heap.size (fun k_ => (w.heap.size ≤ k_) ∧ k_ ≠ ax) (.slice (some ⟨be, 0, none⟩) aj.length ck) sc from (uf4_ ao)))); (try (obtain ⟨ce37, hcl37, hM37, hcc37, hfr37⟩ := Kd.N_elem HX37.out [] ((ji28) : Int) (of_decide_eq_true (g0_)) (by have h_ : ((ji28) : Int) < ((aj.length : Int) : Int) := of_decide_eq_true (g0_); first | exact h_ | (have e_ := (Kd.N_reads' ao.out).1; omega) | simpa using h_))); (try (obtain ⟨ua37_0, uc37_0, rfl, ul37_0, ge37_0⟩ := Kd.FK_slice_open hM37)); (try (have HP37 := Kd.N_seg HX37.out ((ji28) : Int) (of_decide_eq_true (g0_)) (by have h_ : ((ji28) : Int) < ((aj.length : Int) : Int) := of_decide_eq_true (g0_); first | exact h_ | (have e_ := (Kd.N_reads' ao.out).1; omega) | simpa using h_) (seg := [.slice ty (rd_L1 aj bs).length tz]) (j := 0) hcl37 hcc37 (show 1 ≤ 1 from by decide) (x' := rd_L1 aj bs) (Kd.FK_slice_mk (Kd.V_reads' (Kd.V_mono (ok' := (fun k_ => ((fun k_ => (w.heap.size ≤ k_) ∧ k_ ≠ ax)) k_ ∧ k_ ≠ be)) (fg.out) (fun k_ hk => ⟨⟨hk.1.1, hk.1.2⟩, fun e_ => (hk.2) (g5_)⟩))).2.1 (Kd.V_F (Kd.V_mono (ok' := (fun k_ => ((fun k_ => (w.heap.size ≤ k_) ∧ k_ ≠ ax)) k_ ∧ k_ ≠ be)) (fg.out) (fun k_ hk => ⟨⟨hk.1.1, hk.1.2⟩, fun e_ => (hk.2) (g5_)⟩)))) (fun _ hk => hk))); (try (have sh := hcc37 0 _ rfl)); (try (try simp only [show ((Kd.slice 3 (Kd.int .i64))).sz = 1 from rfl, Nat.mul_one, Nat.add_zero] at sh)); (try (have hf37_0 := hfr37 0)); (try (try simp only [show ((Kd.slice 3 (Kd.int .i64))).sz = 1 from rfl, Nat.mul_one, Nat.add_zero] at hf37_0)); (try (clear hcl37 hcc37 hfr37 hM37)); (try (try simp only [show ((Kd.slice 3 (Kd.int .i64))).sz = 1 from rfl, Nat.mul_one, Nat.add_zero] at HP37)); (try (try simp only [show ((Kd.slice 3 (Kd.int .i64))).sz = 1 from rfl, Nat.mul_one, Nat.add_zero] at HP37)))); refine store_event (t := 22) (p := 65) (v := ?vo_w38) (w1 := (fw.setCell ⟨be, ((ji28) : Int).toNat, none⟩ (.slice ty (rd_L1 aj bs).length tz))) ?hg ?ho ?hn ?hr ?_; (case ho => rfl); (case hg => rfl); (case hn => rfl); (case hr => first | (go_simp; done) | (go_simp; rfl)); intro si hw; have hg : fw.grownBy si (some be) := (by rw [hw]; exact HP37.2); have hp_ : Kd.N (Kd.slice 3 (Kd.int .i64)) 22 si w.heap.size (fun k_ => (w.heap.size ≤ k_) ∧ k_ ≠ ax) (.slice (some ⟨be, 0, none⟩) aj.length ck) at8 := (by rw [hw, cd2.out]; exact HP37.1); clear HP37; replace bk := Aside0.mk (blk_grown (g := ax) (o := .cells #[.slice ag ab.length ae, .slice ah aa.length af] 25 (0, 0)) (uf0_ bk) hg (Kd.N_ne ao.out bk.out (by decide))); replace ao := Aside0.mk (hp_); replace i9 := Aside0.mk (Kd.V_afterv (v := (.slice (some ⟨be, 0, none⟩) aj.length ck)) (v1 := (.slice (some ⟨be, 0, none⟩) aj.length ck)) (ok := (fun k_ => (w.heap.size ≤ k_) ∧ k_ ≠ ax)) (uf5_ i9) hg (.inl rfl)); replace ja := Aside0.mk (Kd.V_afterv (v := (.slice (some ⟨be, 0, none⟩) aj.length ck)) (v1 := (.slice (some ⟨be, 0, none⟩) aj.length ck)) (ok := (fun k_ => (w.heap.size ≤ k_) ∧ k_ ≠ ax)) (uf5_ ja) hg (.inl rfl)); replace fg := Aside0.mk (Kd.V_afterv (v := (.slice (some ⟨be, 0, none⟩) aj.length ck)) (v1 := (.slice (some ⟨be, 0, none⟩) aj.length ck)) (ok := (fun k_ => (w.heap.size ≤ k_) ∧ k_ ≠ ax)) (uf5_ fg) hg (.inl rfl)); replace fh := Aside0.mk (Kd.V_afterv (v := (.slice (some ⟨be, 0, none⟩) aj.length ck)) (v1 := (.slice (some ⟨be, 0, none⟩) aj.length ck)) (ok := (fun k_ => (w.heap.size ≤ k_) ∧ k_ ≠ ax)) (uf5_ fh) hg (.inl rfl)); replace HB := Aside0.mk ((g43_ : Below w.heap.size w si)); clear hg hw hp_))
          repeat (go_quiet (first | (go_at_call 114; (with_reducible refine (spec_l3Before.calls k3 _ _ (rd_L1 aj bs) _ _ (rd_L1 aj (ji28)) true _ ?side1 ?side2 ?side3 ?side4 ys.out).mono ?_); (case side1 => repeat (first | exact (g41_) | (with_reducible refine Kd.C_alloc ?_ _) | (with_reducible refine Kd.C_drewN ?_ _) | (with_reducible refine Kd.C_drew ?_))); (case side2 => exact ad3.out); (case side3 => repeat (first | exact (g42_) | (with_reducible refine Kd.C_alloc ?_ _) | (with_reducible refine Kd.C_drewN ?_ _) | (with_reducible refine Kd.C_drew ?_))); (case side4 => exact ad4.out); rintro e w' ⟨rfl, ⟨nd, rfl⟩⟩; (try first | exact ⟨rfl, _, World.drewN_drewN _ _ _⟩ | exact ⟨rfl, _, Eq.trans (World.drewN_drewN _ _ _) (congrArg (World.drewN _) (Nat.add_assoc _ _ _))⟩); have ow : 0 ≤ (bs : Int) := of_decide_eq_true (g0_); have qx : bs < (aj.length : Int) := of_decide_eq_true (g0_); obtain ⟨au3, db1, db2, au4, sd, yt, yu⟩ := at_L1 (Kd.N_reads' ao.out).2.2 bs ow qx; obtain rfl : vk = au3 := (by injection au4); obtain ⟨ce243, hce243, hMe243, hcc243⟩ := Kd.N_get ao.out [] bs ow (g80_); obtain ⟨ua243_0, uc243_0, rfl, ul243_0, ge243_0⟩ := Kd.FK_slice_open hMe243; have hv243_0 := hcc243 0 _ rfl; rw [Nat.add_zero, show ((Kd.slice 3 (Kd.int .i64))).sz = 1 from rfl, Nat.mul_one] at hv243_0; replace hv243_0 := Option.some.inj (hv243_0.symm.trans sd); injection hv243_0 with hva_ hvn_ hvc_; rw [hva_] at ge243_0; rw [hvc_] at ul243_0; have fg := Aside0.mk (show Kd.V (Kd.int .i64) 3 _ w.heap.size _ _ (rd_L1 aj bs) from Kd.V_mk ul243_0 ge243_0); clear hva_ hvn_ hvc_ ge243_0 ul243_0; clear hcc243 hce243; have db3 := Aside0.mk yu; have db4 := Aside0.mk yt; clear yu yt; replace ow := eq_true ow; replace qx := eq_true qx; have ea_ := Option.some.inj (vl.symm.trans sd); injection ea_ with ea_ en_ ec_; subst ea_; subst ec_; clear en_; have ox : 0 ≤ ((ji28) : Int) := of_decide_eq_true (g0_); have qy : (ji28) < (aj.length : Int) := of_decide_eq_true (g0_); obtain ⟨au5, db5, db6, au6, se, yv, yw⟩ := at_L1 (Kd.N_reads' ao.out).2.2 (ji28) ox qy; obtain rfl : vk = au5 := (by injection au6); obtain ⟨ce244, hce244, hMe244, hcc244⟩ := Kd.N_get ao.out [] (ji28) ox (g81_); obtain ⟨ua244_0, uc244_0, rfl, ul244_0, ge244_0⟩ := Kd.FK_slice_open hMe244; have hv244_0 := hcc244 0 _ rfl; rw [Nat.add_zero, show ((Kd.slice 3 (Kd.int .i64))).sz = 1 from rfl, Nat.mul_one] at hv244_0; replace hv244_0 := Option.some.inj (hv244_0.symm.trans se); injection hv244_0 with hva_ hvn_ hvc_; rw [hva_] at ge244_0; rw [hvc_] at ul244_0; have fh := Aside0.mk (show Kd.V (Kd.int .i64) 3 _ w.heap.size _ _ (rd_L1 aj (ji28)) from Kd.V_mk ul244_0 ge244_0); clear hva_ hvn_ hvc_ ge244_0 ul244_0; clear hcc244 hce244; have db7 := Aside0.mk yw; have db8 := Aside0.mk yv; clear yw yv; replace ox := eq_true ox; replace qy := eq_true qy; have ea_ := Option.some.inj (vo.symm.trans se); injection ea_ with ea_ en_ ec_; subst ea_; subst ec_; clear en_; have qz : 0 ≤ (bs : Int) := of_decide_eq_true (g0_); have q0 : (bs : Int) < ((aj.length : Int) : Int) := of_decide_eq_true (g0_); obtain ⟨be, db9, yx, yy, gl33, cl33, HG33⟩ := Kd.N_form ao.out (by omega); (first | cases yx | (injection yx with ea_ en_ ec_; (first | subst ea_ | (injection ea_ with ea_; subst ea_)); subst ec_; clear en_)); have GB33 := Aside0.mk yy; have GG33 := Aside0.mk HG33; clear yy gl33 HG33; (first | simp only [add_plain] at vl | skip); (first | simp only [add_plain] at vo | skip); (first | simp only [add_plain] at sd | skip); (first | simp only [add_plain] at se | skip); obtain ⟨ce33, hcl33, hM33, hcc33, hfr33⟩ := Kd.N_elem ao.out [] (bs : Int) qz q0; obtain ⟨ua33_0, uc33_0, rfl, ul33_0, ge33_0⟩ := Kd.FK_slice_open hM33; have au7 := hcc33 0 _ rfl; have hf33_0 := hfr33 0; (try simp only [show ((Kd.slice 3 (Kd.int .i64))).sz = 1 from rfl, Nat.mul_one, Nat.add_zero] at au7); (try simp only [show ((Kd.slice 3 (Kd.int .i64))).sz = 1 from rfl, Nat.mul_one, Nat.add_zero] at hf33_0); clear hcl33 hcc33 hfr33 hM33; replace qz := eq_true qz; replace q0 := eq_true q0; have HX35 := Aside0.mk (show Kd.N (Kd.slice 3 (Kd.int .i64)) 22 wr w.heap.size (fun k_ => (w.heap.size ≤ k_) ∧ k_ ≠ ax) (.slice (some ⟨be, 0, none⟩) aj.length ck) aj from (uf4_ ao)); obtain ⟨ce35, hcl35, hM35, hcc35, hfr35⟩ := Kd.N_elem HX35.out [] (bs : Int) (of_decide_eq_true (g0_)) (by have h_ : (bs : Int) < ((aj.length : Int) : Int) := of_decide_eq_true (g0_); first | exact h_ | (have e_ := (Kd.N_reads' ao.out).1; omega) | simpa using h_); obtain ⟨ua35_0, uc35_0, rfl, ul35_0, ge35_0⟩ := Kd.FK_slice_open hM35; have HP35 := Kd.N_seg HX35.out (bs : Int) (of_decide_eq_true (g0_)) (by have h_ : (bs : Int) < ((aj.length : Int) : Int) := of_decide_eq_true (g0_); first | exact h_ | (have e_ := (Kd.N_reads' ao.out).1; omega) | simpa using h_) (seg := [.slice t0 (rd_L1 aj (ji28)).length t1]) (j := 0) hcl35 hcc35 (show 1 ≤ 1 from by decide) (x' := rd_L1 aj (ji28)) (Kd.FK_slice_mk (Kd.V_reads' (Kd.V_mono (ok' := (fun k_ => ((fun k_ => (w.heap.size ≤ k_) ∧ k_ ≠ ax)) k_ ∧ k_ ≠ be)) (fh.out) (fun k_ hk => ⟨⟨hk.1.1, hk.1.2⟩, fun e_ => (hk.2) (g5_)⟩))).2.1 (Kd.V_F (Kd.V_mono (ok' := (fun k_ => ((fun k_ => (w.heap.size ≤ k_) ∧ k_ ≠ ax)) k_ ∧ k_ ≠ be)) (fh.out) (fun k_ hk => ⟨⟨hk.1.1, hk.1.2⟩, fun e_ => (hk.2) (g5_)⟩)))) (fun _ hk => hk); have pj := hcc35 0 _ rfl; (try simp only [show ((Kd.slice 3 (Kd.int .i64))).sz = 1 from rfl, Nat.mul_one, Nat.add_zero] at pj); have hf35_0 := hfr35 0; (try simp only [show ((Kd.slice 3 (Kd.int .i64))).sz = 1 from rfl, Nat.mul_one, Nat.add_zero] at hf35_0); clear hcl35 hcc35 hfr35 hM35; (try simp only [show ((Kd.slice 3 (Kd.int .i64))).sz = 1 from rfl, Nat.mul_one, Nat.add_zero] at HP35); (try simp only [show ((Kd.slice 3 (Kd.int .i64))).sz = 1 from rfl, Nat.mul_one, Nat.add_zero] at HP35)) | ((with_reducible refine gate_store (t := 22) (p := 60) rfl ?_); (try (rw [drewN_self wr]; generalize hq_ : World.drewN wr _ = wr; replace ao := Aside0.mk (Kd.N_at hq_ ao.out); replace i9 := Aside0.mk (spec_CirclesOf.V_atq hq_ i9.out); replace ja := Aside0.mk (spec_CirclesOf.V_atq hq_ ja.out); replace fg := Aside0.mk (spec_CirclesOf.V_atq hq_ fg.out); replace fh := Aside0.mk (spec_CirclesOf.V_atq hq_ fh.out); replace bk := Aside0.mk (blk_at hq_ bk.out); replace HB := Aside0.mk (below_at hq_ HB.out); clear hq_; (try (have HX35 := Aside0.mk (show Kd.N (Kd.slice 3 (Kd.int .i64)) 22 wr w.heap.size (fun k_ => (w.heap.size ≤ k_) ∧ k_ ≠ ax) (.slice (some ⟨be, 0, none⟩) aj.length ck) aj from (uf4_ ao)))); (try (obtain ⟨ce35, hcl35, hM35, hcc35, hfr35⟩ := Kd.N_elem HX35.out [] (bs : Int) (of_decide_eq_true (g0_)) (by have h_ : (bs : Int) < ((aj.length : Int) : Int) := of_decide_eq_true (g0_); first | exact h_ | (have e_ := (Kd.N_reads' ao.out).1; omega) | simpa using h_))); (try (obtain ⟨ua35_0, uc35_0, rfl, ul35_0, ge35_0⟩ := Kd.FK_slice_open hM35)); (try (have HP35 := Kd.N_seg HX35.out (bs : Int) (of_decide_eq_true (g0_)) (by have h_ : (bs : Int) < ((aj.length : Int) : Int) := of_decide_eq_true (g0_); first | exact h_ | (have e_ := (Kd.N_reads' ao.out).1; omega) | simpa using h_) (seg := [.slice t0 (rd_L1 aj (ji28)).length t1]) (j := 0) hcl35 hcc35 (show 1 ≤ 1 from by decide) (x' := rd_L1 aj (ji28)) (Kd.FK_slice_mk (Kd.V_reads' (Kd.V_mono (ok' := (fun k_ => ((fun k_ => (w.heap.size ≤ k_) ∧ k_ ≠ ax)) k_ ∧ k_ ≠ be)) (fh.out) (fun k_ hk => ⟨⟨hk.1.1, hk.1.2⟩, fun e_ => (hk.2) (g5_)⟩))).2.1 (Kd.V_F (Kd.V_mono (ok' := (fun k_ => ((fun k_ => (w.heap.size ≤ k_) ∧ k_ ≠ ax)) k_ ∧ k_ ≠ be)) (fh.out) (fun k_ hk => ⟨⟨hk.1.1, hk.1.2⟩, fun e_ => (hk.2) (g5_)⟩)))) (fun _ hk => hk))); (try (have pj := hcc35 0 _ rfl)); (try (try simp only [show ((Kd.slice 3 (Kd.int .i64))).sz = 1 from rfl, Nat.mul_one, Nat.add_zero] at pj)); (try (have hf35_0 := hfr35 0)); (try (try simp only [show ((Kd.slice 3 (Kd.int .i64))).sz = 1 from rfl, Nat.mul_one, Nat.add_zero] at hf35_0)); (try (clear hcl35 hcc35 hfr35 hM35)); (try (try simp only [show ((Kd.slice 3 (Kd.int .i64))).sz = 1 from rfl, Nat.mul_one, Nat.add_zero] at HP35)); (try (try simp only [show ((Kd.slice 3 (Kd.int .i64))).sz = 1 from rfl, Nat.mul_one, Nat.add_zero] at HP35)))); refine store_event (t := 22) (p := 60) (v := ?vo_w36) (w1 := (wr.setCell ⟨be, (bs : Int).toNat, none⟩ (.slice t0 (rd_L1 aj (ji28)).length t1))) ?hg ?ho ?hn ?hr ?_; (case ho => rfl); (case hg => rfl); (case hn => rfl); (case hr => first | (go_simp; done) | (go_simp; rfl)); intro fw hw; have hg : wr.grownBy fw (some be) := (by rw [hw]; exact HP35.2); have hp_ : Kd.N (Kd.slice 3 (Kd.int .i64)) 22 fw w.heap.size (fun k_ => (w.heap.size ≤ k_) ∧ k_ ≠ ax) (.slice (some ⟨be, 0, none⟩) aj.length ck) sc := (by rw [hw, cd1.out]; exact HP35.1); clear HP35; replace bk := Aside0.mk (blk_grown (g := ax) (o := .cells #[.slice ag ab.length ae, .slice ah aa.length af] 25 (0, 0)) (uf0_ bk) hg (Kd.N_ne ao.out bk.out (by decide))); replace ao := Aside0.mk (hp_); replace i9 := Aside0.mk (Kd.V_afterv (v := (.slice (some ⟨be, 0, none⟩) aj.length ck)) (v1 := (.slice (some ⟨be, 0, none⟩) aj.length ck)) (ok := (fun k_ => (w.heap.size ≤ k_) ∧ k_ ≠ ax)) (uf5_ i9) hg (.inl rfl)); replace ja := Aside0.mk (Kd.V_afterv (v := (.slice (some ⟨be, 0, none⟩) aj.length ck)) (v1 := (.slice (some ⟨be, 0, none⟩) aj.length ck)) (ok := (fun k_ => (w.heap.size ≤ k_) ∧ k_ ≠ ax)) (uf5_ ja) hg (.inl rfl)); replace fg := Aside0.mk (Kd.V_afterv (v := (.slice (some ⟨be, 0, none⟩) aj.length ck)) (v1 := (.slice (some ⟨be, 0, none⟩) aj.length ck)) (ok := (fun k_ => (w.heap.size ≤ k_) ∧ k_ ≠ ax)) (uf5_ fg) hg (.inl rfl)); replace fh := Aside0.mk (Kd.V_afterv (v := (.slice (some ⟨be, 0, none⟩) aj.length ck)) (v1 := (.slice (some ⟨be, 0, none⟩) aj.length ck)) (ok := (fun k_ => (w.heap.size ≤ k_) ∧ k_ ≠ ax)) (uf5_ fh) hg (.inl rfl)); replace HB := Aside0.mk ((g43_ : Below w.heap.size w fw)); clear hg hw hp_; have sf : 0 ≤ ((ji28) : Int) := of_decide_eq_true (g0_); have sg : ((ji28) : Int) < ((aj.length : Int) : Int) := of_decide_eq_true (g0_); obtain ⟨ce34, hcl34, hM34, hcc34, hfr34⟩ := Kd.N_elem ao.out [] ((ji28) : Int) sf sg; obtain ⟨ua34_0, uc34_0, rfl, ul34_0, ge34_0⟩ := Kd.FK_slice_open hM34; have au8 := hcc34 0 _ rfl; have hf34_0 := hfr34 0; (try simp only [show ((Kd.slice 3 (Kd.int .i64))).sz = 1 from rfl, Nat.mul_one, Nat.add_zero] at au8); (try simp only [show ((Kd.slice 3 (Kd.int .i64))).sz = 1 from rfl, Nat.mul_one, Nat.add_zero] at hf34_0); clear hcl34 hcc34 hfr34 hM34; replace sf := eq_true sf; replace sg := eq_true sg; have HX37 := Aside0.mk (show Kd.N (Kd.slice 3 (Kd.int .i64)) 22 fw w.heap.size (fun k_ => (w.heap.size ≤ k_) ∧ k_ ≠ ax) (.slice (some ⟨be, 0, none⟩) aj.length ck) sc from (uf4_ ao)); obtain ⟨ce37, hcl37, hM37, hcc37, hfr37⟩ := Kd.N_elem HX37.out [] ((ji28) : Int) (of_decide_eq_true (g0_)) (by have h_ : ((ji28) : Int) < ((aj.length : Int) : Int) := of_decide_eq_true (g0_); first | exact h_ | (have e_ := (Kd.N_reads' ao.out).1; omega) | simpa using h_); obtain ⟨ua37_0, uc37_0, rfl, ul37_0, ge37_0⟩ := Kd.FK_slice_open hM37; have HP37 := Kd.N_seg HX37.out ((ji28) : Int) (of_decide_eq_true (g0_)) (by have h_ : ((ji28) : Int) < ((aj.length : Int) : Int) := of_decide_eq_true (g0_); first | exact h_ | (have e_ := (Kd.N_reads' ao.out).1; omega) | simpa using h_) (seg := [.slice ty (rd_L1 aj bs).length tz]) (j := 0) hcl37 hcc37 (show 1 ≤ 1 from by decide) (x' := rd_L1 aj bs) (Kd.FK_slice_mk (Kd.V_reads' (Kd.V_mono (ok' := (fun k_ => ((fun k_ => (w.heap.size ≤ k_) ∧ k_ ≠ ax)) k_ ∧ k_ ≠ be)) (fg.out) (fun k_ hk => ⟨⟨hk.1.1, hk.1.2⟩, fun e_ => (hk.2) (g5_)⟩))).2.1 (Kd.V_F (Kd.V_mono (ok' := (fun k_ => ((fun k_ => (w.heap.size ≤ k_) ∧ k_ ≠ ax)) k_ ∧ k_ ≠ be)) (fg.out) (fun k_ hk => ⟨⟨hk.1.1, hk.1.2⟩, fun e_ => (hk.2) (g5_)⟩)))) (fun _ hk => hk); have sh := hcc37 0 _ rfl; (try simp only [show ((Kd.slice 3 (Kd.int .i64))).sz = 1 from rfl, Nat.mul_one, Nat.add_zero] at sh); have hf37_0 := hfr37 0; (try simp only [show ((Kd.slice 3 (Kd.int .i64))).sz = 1 from rfl, Nat.mul_one, Nat.add_zero] at hf37_0); clear hcl37 hcc37 hfr37 hM37; (try simp only [show ((Kd.slice 3 (Kd.int .i64))).sz = 1 from rfl, Nat.mul_one, Nat.add_zero] at HP37); (try simp only [show ((Kd.slice 3 (Kd.int .i64))).sz = 1 from rfl, Nat.mul_one, Nat.add_zero] at HP37)) | ((with_reducible refine gate_store (t := 22) (p := 65) rfl ?_); (try (rw [drewN_self fw]; generalize hq_ : World.drewN fw _ = fw; replace ao := Aside0.mk (Kd.N_at hq_ ao.out); replace i9 := Aside0.mk (spec_CirclesOf.V_atq hq_ i9.out); replace ja := Aside0.mk (spec_CirclesOf.V_atq hq_ ja.out); replace fg := Aside0.mk (spec_CirclesOf.V_atq hq_ fg.out); replace fh := Aside0.mk (spec_CirclesOf.V_atq hq_ fh.out); replace bk := Aside0.mk (blk_at hq_ bk.out); replace HB := Aside0.mk (below_at hq_ HB.out); clear hq_; (try (have HX37 := Aside0.mk (show Kd.N (Kd.slice 3 (Kd.int .i64)) 22 fw w.heap.size (fun k_ => (w.heap.size ≤ k_) ∧ k_ ≠ ax) (.slice (some ⟨be, 0, none⟩) aj.length ck) sc from (uf4_ ao)))); (try (obtain ⟨ce37, hcl37, hM37, hcc37, hfr37⟩ := Kd.N_elem HX37.out [] ((ji28) : Int) (of_decide_eq_true (g0_)) (by have h_ : ((ji28) : Int) < ((aj.length : Int) : Int) := of_decide_eq_true (g0_); first | exact h_ | (have e_ := (Kd.N_reads' ao.out).1; omega) | simpa using h_))); (try (obtain ⟨ua37_0, uc37_0, rfl, ul37_0, ge37_0⟩ := Kd.FK_slice_open hM37)); (try (have HP37 := Kd.N_seg HX37.out ((ji28) : Int) (of_decide_eq_true (g0_)) (by have h_ : ((ji28) : Int) < ((aj.length : Int) : Int) := of_decide_eq_true (g0_); first | exact h_ | (have e_ := (Kd.N_reads' ao.out).1; omega) | simpa using h_) (seg := [.slice ty (rd_L1 aj bs).length tz]) (j := 0) hcl37 hcc37 (show 1 ≤ 1 from by decide) (x' := rd_L1 aj bs) (Kd.FK_slice_mk (Kd.V_reads' (Kd.V_mono (ok' := (fun k_ => ((fun k_ => (w.heap.size ≤ k_) ∧ k_ ≠ ax)) k_ ∧ k_ ≠ be)) (fg.out) (fun k_ hk => ⟨⟨hk.1.1, hk.1.2⟩, fun e_ => (hk.2) (g5_)⟩))).2.1 (Kd.V_F (Kd.V_mono (ok' := (fun k_ => ((fun k_ => (w.heap.size ≤ k_) ∧ k_ ≠ ax)) k_ ∧ k_ ≠ be)) (fg.out) (fun k_ hk => ⟨⟨hk.1.1, hk.1.2⟩, fun e_ => (hk.2) (g5_)⟩)))) (fun _ hk => hk))); (try (have sh := hcc37 0 _ rfl)); (try (try simp only [show ((Kd.slice 3 (Kd.int .i64))).sz = 1 from rfl, Nat.mul_one, Nat.add_zero] at sh)); (try (have hf37_0 := hfr37 0)); (try (try simp only [show ((Kd.slice 3 (Kd.int .i64))).sz = 1 from rfl, Nat.mul_one, Nat.add_zero] at hf37_0)); (try (clear hcl37 hcc37 hfr37 hM37)); (try (try simp only [show ((Kd.slice 3 (Kd.int .i64))).sz = 1 from rfl, Nat.mul_one, Nat.add_zero] at HP37)); (try (try simp only [show ((Kd.slice 3 (Kd.int .i64))).sz = 1 from rfl, Nat.mul_one, Nat.add_zero] at HP37)))); refine store_event (t := 22) (p := 65) (v := ?vo_w38) (w1 := (fw.setCell ⟨be, ((ji28) : Int).toNat, none⟩ (.slice ty (rd_L1 aj bs).length tz))) ?hg ?ho ?hn ?hr ?_; (case ho => rfl); (case hg => rfl); (case hn => rfl); (case hr => first | (go_simp; done) | (go_simp; rfl)); intro si hw; have hg : fw.grownBy si (some be) := (by rw [hw]; exact HP37.2); have hp_ : Kd.N (Kd.slice 3 (Kd.int .i64)) 22 si w.heap.size (fun k_ => (w.heap.size ≤ k_) ∧ k_ ≠ ax) (.slice (some ⟨be, 0, none⟩) aj.length ck) at8 := (by rw [hw, cd2.out]; exact HP37.1); clear HP37; replace bk := Aside0.mk (blk_grown (g := ax) (o := .cells #[.slice ag ab.length ae, .slice ah aa.length af] 25 (0, 0)) (uf0_ bk) hg (Kd.N_ne ao.out bk.out (by decide))); replace ao := Aside0.mk (hp_); replace i9 := Aside0.mk (Kd.V_afterv (v := (.slice (some ⟨be, 0, none⟩) aj.length ck)) (v1 := (.slice (some ⟨be, 0, none⟩) aj.length ck)) (ok := (fun k_ => (w.heap.size ≤ k_) ∧ k_ ≠ ax)) (uf5_ i9) hg (.inl rfl)); replace ja := Aside0.mk (Kd.V_afterv (v := (.slice (some ⟨be, 0, none⟩) aj.length ck)) (v1 := (.slice (some ⟨be, 0, none⟩) aj.length ck)) (ok := (fun k_ => (w.heap.size ≤ k_) ∧ k_ ≠ ax)) (uf5_ ja) hg (.inl rfl)); replace fg := Aside0.mk (Kd.V_afterv (v := (.slice (some ⟨be, 0, none⟩) aj.length ck)) (v1 := (.slice (some ⟨be, 0, none⟩) aj.length ck)) (ok := (fun k_ => (w.heap.size ≤ k_) ∧ k_ ≠ ax)) (uf5_ fg) hg (.inl rfl)); replace fh := Aside0.mk (Kd.V_afterv (v := (.slice (some ⟨be, 0, none⟩) aj.length ck)) (v1 := (.slice (some ⟨be, 0, none⟩) aj.length ck)) (ok := (fun k_ => (w.heap.size ≤ k_) ∧ k_ ≠ ax)) (uf5_ fh) hg (.inl rfl)); replace HB := Aside0.mk ((g43_ : Below w.heap.size w si)); clear hg hw hp_)); try go_wp2_with (first | (go_at_call 114; (with_reducible refine (spec_l3Before.calls k3 _ _ (rd_L1 aj bs) _ _ (rd_L1 aj (ji28)) true _ ?side1 ?side2 ?side3 ?side4 ys.out).mono ?_); (case side1 => repeat (first | exact (g41_) | (with_reducible refine Kd.C_alloc ?_ _) | (with_reducible refine Kd.C_drewN ?_ _) | (with_reducible refine Kd.C_drew ?_))); (case side2 => exact ad3.out); (case side3 => repeat (first | exact (g42_) | (with_reducible refine Kd.C_alloc ?_ _) | (with_reducible refine Kd.C_drewN ?_ _) | (with_reducible refine Kd.C_drew ?_))); (case side4 => exact ad4.out); rintro e w' ⟨rfl, ⟨nd, rfl⟩⟩; (try first | exact ⟨rfl, _, World.drewN_drewN _ _ _⟩ | exact ⟨rfl, _, Eq.trans (World.drewN_drewN _ _ _) (congrArg (World.drewN _) (Nat.add_assoc _ _ _))⟩); have ow : 0 ≤ (bs : Int) := of_decide_eq_true (g0_); have qx : bs < (aj.length : Int) := of_decide_eq_true (g0_); obtain ⟨au3, db1, db2, au4, sd, yt, yu⟩ := at_L1 (Kd.N_reads' ao.out).2.2 bs ow qx; obtain rfl : vk = au3 := (by injection au4); obtain ⟨ce243, hce243, hMe243, hcc243⟩ := Kd.N_get ao.out [] bs ow (g80_); obtain ⟨ua243_0, uc243_0, rfl, ul243_0, ge243_0⟩ := Kd.FK_slice_open hMe243; have hv243_0 := hcc243 0 _ rfl; rw [Nat.add_zero, show ((Kd.slice 3 (Kd.int .i64))).sz = 1 from rfl, Nat.mul_one] at hv243_0; replace hv243_0 := Option.some.inj (hv243_0.symm.trans sd); injection hv243_0 with hva_ hvn_ hvc_; rw [hva_] at ge243_0; rw [hvc_] at ul243_0; have fg := Aside0.mk (show Kd.V (Kd.int .i64) 3 _ w.heap.size _ _ (rd_L1 aj bs) from Kd.V_mk ul243_0 ge243_0); clear hva_ hvn_ hvc_ ge243_0 ul243_0; clear hcc243 hce243; have db3 := Aside0.mk yu; have db4 := Aside0.mk yt; clear yu yt; replace ow := eq_true ow; replace qx := eq_true qx; have ea_ := Option.some.inj (vl.symm.trans sd); injection ea_ with ea_ en_ ec_; subst ea_; subst ec_; clear en_; have ox : 0 ≤ ((ji28) : Int) := of_decide_eq_true (g0_); have qy : (ji28) < (aj.length : Int) := of_decide_eq_true (g0_); obtain ⟨au5, db5, db6, au6, se, yv, yw⟩ := at_L1 (Kd.N_reads' ao.out).2.2 (ji28) ox qy; obtain rfl : vk = au5 := (by injection au6); obtain ⟨ce244, hce244, hMe244, hcc244⟩ := Kd.N_get ao.out [] (ji28) ox (g81_); obtain ⟨ua244_0, uc244_0, rfl, ul244_0, ge244_0⟩ := Kd.FK_slice_open hMe244; have hv244_0 := hcc244 0 _ rfl; rw [Nat.add_zero, show ((Kd.slice 3 (Kd.int .i64))).sz = 1 from rfl, Nat.mul_one] at hv244_0; replace hv244_0 := Option.some.inj (hv244_0.symm.trans se); injection hv244_0 with hva_ hvn_ hvc_; rw [hva_] at ge244_0; rw [hvc_] at ul244_0; have fh := Aside0.mk (show Kd.V (Kd.int .i64) 3 _ w.heap.size _ _ (rd_L1 aj (ji28)) from Kd.V_mk ul244_0 ge244_0); clear hva_ hvn_ hvc_ ge244_0 ul244_0; clear hcc244 hce244; have db7 := Aside0.mk yw; have db8 := Aside0.mk yv; clear yw yv; replace ox := eq_true ox; replace qy := eq_true qy; have ea_ := Option.some.inj (vo.symm.trans se); injection ea_ with ea_ en_ ec_; subst ea_; subst ec_; clear en_; have qz : 0 ≤ (bs : Int) := of_decide_eq_true (g0_); have q0 : (bs : Int) < ((aj.length : Int) : Int) := of_decide_eq_true (g0_); obtain ⟨be, db9, yx, yy, gl33, cl33, HG33⟩ := Kd.N_form ao.out (by omega); (first | cases yx | (injection yx with ea_ en_ ec_; (first | subst ea_ | (injection ea_ with ea_; subst ea_)); subst ec_; clear en_)); have GB33 := Aside0.mk yy; have GG33 := Aside0.mk HG33; clear yy gl33 HG33; (first | simp only [add_plain] at vl | skip); (first | simp only [add_plain] at vo | skip); (first | simp only [add_plain] at sd | skip); (first | simp only [add_plain] at se | skip); obtain ⟨ce33, hcl33, hM33, hcc33, hfr33⟩ := Kd.N_elem ao.out [] (bs : Int) qz q0; obtain ⟨ua33_0, uc33_0, rfl, ul33_0, ge33_0⟩ := Kd.FK_slice_open hM33; have au7 := hcc33 0 _ rfl; have hf33_0 := hfr33 0; (try simp only [show ((Kd.slice 3 (Kd.int .i64))).sz = 1 from rfl, Nat.mul_one, Nat.add_zero] at au7); (try simp only [show ((Kd.slice 3 (Kd.int .i64))).sz = 1 from rfl, Nat.mul_one, Nat.add_zero] at hf33_0); clear hcl33 hcc33 hfr33 hM33; replace qz := eq_true qz; replace q0 := eq_true q0; have HX35 := Aside0.mk (show Kd.N (Kd.slice 3 (Kd.int .i64)) 22 wr w.heap.size (fun k_ => (w.heap.size ≤ k_) ∧ k_ ≠ ax) (.slice (some ⟨be, 0, none⟩) aj.length ck) aj from (uf4_ ao)); obtain ⟨ce35, hcl35, hM35, hcc35, hfr35⟩ := Kd.N_elem HX35.out [] (bs : Int) (of_decide_eq_true (g0_)) (by have h_ : (bs : Int) < ((aj.length : Int) : Int) := of_decide_eq_true (g0_); first | exact h_ | (have e_ := (Kd.N_reads' ao.out).1; omega) | simpa using h_); obtain ⟨ua35_0, uc35_0, rfl, ul35_0, ge35_0⟩ := Kd.FK_slice_open hM35; have HP35 := Kd.N_seg HX35.out (bs : Int) (of_decide_eq_true (g0_)) (by have h_ : (bs : Int) < ((aj.length : Int) : Int) := of_decide_eq_true (g0_); first | exact h_ | (have e_ := (Kd.N_reads' ao.out).1; omega) | simpa using h_) (seg := [.slice t0 (rd_L1 aj (ji28)).length t1]) (j := 0) hcl35 hcc35 (show 1 ≤ 1 from by decide) (x' := rd_L1 aj (ji28)) (Kd.FK_slice_mk (Kd.V_reads' (Kd.V_mono (ok' := (fun k_ => ((fun k_ => (w.heap.size ≤ k_) ∧ k_ ≠ ax)) k_ ∧ k_ ≠ be)) (fh.out) (fun k_ hk => ⟨⟨hk.1.1, hk.1.2⟩, fun e_ => (hk.2) (g5_)⟩))).2.1 (Kd.V_F (Kd.V_mono (ok' := (fun k_ => ((fun k_ => (w.heap.size ≤ k_) ∧ k_ ≠ ax)) k_ ∧ k_ ≠ be)) (fh.out) (fun k_ hk => ⟨⟨hk.1.1, hk.1.2⟩, fun e_ => (hk.2) (g5_)⟩)))) (fun _ hk => hk); have pj := hcc35 0 _ rfl; (try simp only [show ((Kd.slice 3 (Kd.int .i64))).sz = 1 from rfl, Nat.mul_one, Nat.add_zero] at pj); have hf35_0 := hfr35 0; (try simp only [show ((Kd.slice 3 (Kd.int .i64))).sz = 1 from rfl, Nat.mul_one, Nat.add_zero] at hf35_0); clear hcl35 hcc35 hfr35 hM35; (try simp only [show ((Kd.slice 3 (Kd.int .i64))).sz = 1 from rfl, Nat.mul_one, Nat.add_zero] at HP35); (try simp only [show ((Kd.slice 3 (Kd.int .i64))).sz = 1 from rfl, Nat.mul_one, Nat.add_zero] at HP35)) | ((with_reducible refine gate_store (t := 22) (p := 60) rfl ?_); (try (rw [drewN_self wr]; generalize hq_ : World.drewN wr _ = wr; replace ao := Aside0.mk (Kd.N_at hq_ ao.out); replace i9 := Aside0.mk (spec_CirclesOf.V_atq hq_ i9.out); replace ja := Aside0.mk (spec_CirclesOf.V_atq hq_ ja.out); replace fg := Aside0.mk (spec_CirclesOf.V_atq hq_ fg.out); replace fh := Aside0.mk (spec_CirclesOf.V_atq hq_ fh.out); replace bk := Aside0.mk (blk_at hq_ bk.out); replace HB := Aside0.mk (below_at hq_ HB.out); clear hq_; (try (have HX35 := Aside0.mk (show Kd.N (Kd.slice 3 (Kd.int .i64)) 22 wr w.heap.size (fun k_ => (w.heap.size ≤ k_) ∧ k_ ≠ ax) (.slice (some ⟨be, 0, none⟩) aj.length ck) aj from (uf4_ ao)))); (try (obtain ⟨ce35, hcl35, hM35, hcc35, hfr35⟩ := Kd.N_elem HX35.out [] (bs : Int) (of_decide_eq_true (g0_)) (by have h_ : (bs : Int) < ((aj.length : Int) : Int) := of_decide_eq_true (g0_); first | exact h_ | (have e_ := (Kd.N_reads' ao.out).1; omega) | simpa using h_))); (try (obtain ⟨ua35_0, uc35_0, rfl, ul35_0, ge35_0⟩ := Kd.FK_slice_open hM35)); (try (have HP35 := Kd.N_seg HX35.out (bs : Int) (of_decide_eq_true (g0_)) (by have h_ : (bs : Int) < ((aj.length : Int) : Int) := of_decide_eq_true (g0_); first | exact h_ | (have e_ := (Kd.N_reads' ao.out).1; omega) | simpa using h_) (seg := [.slice t0 (rd_L1 aj (ji28)).length t1]) (j := 0) hcl35 hcc35 (show 1 ≤ 1 from by decide) (x' := rd_L1 aj (ji28)) (Kd.FK_slice_mk (Kd.V_reads' (Kd.V_mono (ok' := (fun k_ => ((fun k_ => (w.heap.size ≤ k_) ∧ k_ ≠ ax)) k_ ∧ k_ ≠ be)) (fh.out) (fun k_ hk => ⟨⟨hk.1.1, hk.1.2⟩, fun e_ => (hk.2) (g5_)⟩))).2.1 (Kd.V_F (Kd.V_mono (ok' := (fun k_ => ((fun k_ => (w.heap.size ≤ k_) ∧ k_ ≠ ax)) k_ ∧ k_ ≠ be)) (fh.out) (fun k_ hk => ⟨⟨hk.1.1, hk.1.2⟩, fun e_ => (hk.2) (g5_)⟩)))) (fun _ hk => hk))); (try (have pj := hcc35 0 _ rfl)); (try (try simp only [show ((Kd.slice 3 (Kd.int .i64))).sz = 1 from rfl, Nat.mul_one, Nat.add_zero] at pj)); (try (have hf35_0 := hfr35 0)); (try (try simp only [show ((Kd.slice 3 (Kd.int .i64))).sz = 1 from rfl, Nat.mul_one, Nat.add_zero] at hf35_0)); (try (clear hcl35 hcc35 hfr35 hM35)); (try (try simp only [show ((Kd.slice 3 (Kd.int .i64))).sz = 1 from rfl, Nat.mul_one, Nat.add_zero] at HP35)); (try (try simp only [show ((Kd.slice 3 (Kd.int .i64))).sz = 1 from rfl, Nat.mul_one, Nat.add_zero] at HP35)))); refine store_event (t := 22) (p := 60) (v := ?vo_w36) (w1 := (wr.setCell ⟨be, (bs : Int).toNat, none⟩ (.slice t0 (rd_L1 aj (ji28)).length t1))) ?hg ?ho ?hn ?hr ?_; (case ho => rfl); (case hg => rfl); (case hn => rfl); (case hr => first | (go_simp; done) | (go_simp; rfl)); intro fw hw; have hg : wr.grownBy fw (some be) := (by rw [hw]; exact HP35.2); have hp_ : Kd.N (Kd.slice 3 (Kd.int .i64)) 22 fw w.heap.size (fun k_ => (w.heap.size ≤ k_) ∧ k_ ≠ ax) (.slice (some ⟨be, 0, none⟩) aj.length ck) sc := (by rw [hw, cd1.out]; exact HP35.1); clear HP35; replace bk := Aside0.mk (blk_grown (g := ax) (o := .cells #[.slice ag ab.length ae, .slice ah aa.length af] 25 (0, 0)) (uf0_ bk) hg (Kd.N_ne ao.out bk.out (by decide))); replace ao := Aside0.mk (hp_); replace i9 := Aside0.mk (Kd.V_afterv (v := (.slice (some ⟨be, 0, none⟩) aj.length ck)) (v1 := (.slice (some ⟨be, 0, none⟩) aj.length ck)) (ok := (fun k_ => (w.heap.size ≤ k_) ∧ k_ ≠ ax)) (uf5_ i9) hg (.inl rfl)); replace ja := Aside0.mk (Kd.V_afterv (v := (.slice (some ⟨be, 0, none⟩) aj.length ck)) (v1 := (.slice (some ⟨be, 0, none⟩) aj.length ck)) (ok := (fun k_ => (w.heap.size ≤ k_) ∧ k_ ≠ ax)) (uf5_ ja) hg (.inl rfl)); replace fg := Aside0.mk (Kd.V_afterv (v := (.slice (some ⟨be, 0, none⟩) aj.length ck)) (v1 := (.slice (some ⟨be, 0, none⟩) aj.length ck)) (ok := (fun k_ => (w.heap.size ≤ k_) ∧ k_ ≠ ax)) (uf5_ fg) hg (.inl rfl)); replace fh := Aside0.mk (Kd.V_afterv (v := (.slice (some ⟨be, 0, none⟩) aj.length ck)) (v1 := (.slice (some ⟨be, 0, none⟩) aj.length ck)) (ok := (fun k_ => (w.heap.size ≤ k_) ∧ k_ ≠ ax)) (uf5_ fh) hg (.inl rfl)); replace HB := Aside0.mk ((g43_ : Below w.heap.size w fw)); clear hg hw hp_; have sf : 0 ≤ ((ji28) : Int) := of_decide_eq_true (g0_); have sg : ((ji28) : Int) < ((aj.length : Int) : Int) := of_decide_eq_true (g0_); obtain ⟨ce34, hcl34, hM34, hcc34, hfr34⟩ := Kd.N_elem ao.out [] ((ji28) : Int) sf sg; obtain ⟨ua34_0, uc34_0, rfl, ul34_0, ge34_0⟩ := Kd.FK_slice_open hM34; have au8 := hcc34 0 _ rfl; have hf34_0 := hfr34 0; (try simp only [show ((Kd.slice 3 (Kd.int .i64))).sz = 1 from rfl, Nat.mul_one, Nat.add_zero] at au8); (try simp only [show ((Kd.slice 3 (Kd.int .i64))).sz = 1 from rfl, Nat.mul_one, Nat.add_zero] at hf34_0); clear hcl34 hcc34 hfr34 hM34; replace sf := eq_true sf; replace sg := eq_true sg; have HX37 := Aside0.mk (show Kd.N (Kd.slice 3 (Kd.int .i64)) 22 fw w.heap.size (fun k_ => (w.heap.size ≤ k_) ∧ k_ ≠ ax) (.slice (some ⟨be, 0, none⟩) aj.length ck) sc from (uf4_ ao)); obtain ⟨ce37, hcl37, hM37, hcc37, hfr37⟩ := Kd.N_elem HX37.out [] ((ji28) : Int) (of_decide_eq_true (g0_)) (by have h_ : ((ji28) : Int) < ((aj.length : Int) : Int) := of_decide_eq_true (g0_); first | exact h_ | (have e_ := (Kd.N_reads' ao.out).1; omega) | simpa using h_); obtain ⟨ua37_0, uc37_0, rfl, ul37_0, ge37_0⟩ := Kd.FK_slice_open hM37; have HP37 := Kd.N_seg HX37.out ((ji28) : Int) (of_decide_eq_true (g0_)) (by have h_ : ((ji28) : Int) < ((aj.length : Int) : Int) := of_decide_eq_true (g0_); first | exact h_ | (have e_ := (Kd.N_reads' ao.out).1; omega) | simpa using h_) (seg := [.slice ty (rd_L1 aj bs).length tz]) (j := 0) hcl37 hcc37 (show 1 ≤ 1 from by decide) (x' := rd_L1 aj bs) (Kd.FK_slice_mk (Kd.V_reads' (Kd.V_mono (ok' := (fun k_ => ((fun k_ => (w.heap.size ≤ k_) ∧ k_ ≠ ax)) k_ ∧ k_ ≠ be)) (fg.out) (fun k_ hk => ⟨⟨hk.1.1, hk.1.2⟩, fun e_ => (hk.2) (g5_)⟩))).2.1 (Kd.V_F (Kd.V_mono (ok' := (fun k_ => ((fun k_ => (w.heap.size ≤ k_) ∧ k_ ≠ ax)) k_ ∧ k_ ≠ be)) (fg.out) (fun k_ hk => ⟨⟨hk.1.1, hk.1.2⟩, fun e_ => (hk.2) (g5_)⟩)))) (fun _ hk => hk); have sh := hcc37 0 _ rfl; (try simp only [show ((Kd.slice 3 (Kd.int .i64))).sz = 1 from rfl, Nat.mul_one, Nat.add_zero] at sh); have hf37_0 := hfr37 0; (try simp only [show ((Kd.slice 3 (Kd.int .i64))).sz = 1 from rfl, Nat.mul_one, Nat.add_zero] at hf37_0); clear hcl37 hcc37 hfr37 hM37; (try simp only [show ((Kd.slice 3 (Kd.int .i64))).sz = 1 from rfl, Nat.mul_one, Nat.add_zero] at HP37); (try simp only [show ((Kd.slice 3 (Kd.int .i64))).sz = 1 from rfl, Nat.mul_one, Nat.add_zero] at HP37)) | ((with_reducible refine gate_store (t := 22) (p := 65) rfl ?_); (try (rw [drewN_self fw]; generalize hq_ : World.drewN fw _ = fw; replace ao := Aside0.mk (Kd.N_at hq_ ao.out); replace i9 := Aside0.mk (spec_CirclesOf.V_atq hq_ i9.out); replace ja := Aside0.mk (spec_CirclesOf.V_atq hq_ ja.out); replace fg := Aside0.mk (spec_CirclesOf.V_atq hq_ fg.out); replace fh := Aside0.mk (spec_CirclesOf.V_atq hq_ fh.out); replace bk := Aside0.mk (blk_at hq_ bk.out); replace HB := Aside0.mk (below_at hq_ HB.out); clear hq_; (try (have HX37 := Aside0.mk (show Kd.N (Kd.slice 3 (Kd.int .i64)) 22 fw w.heap.size (fun k_ => (w.heap.size ≤ k_) ∧ k_ ≠ ax) (.slice (some ⟨be, 0, none⟩) aj.length ck) sc from (uf4_ ao)))); (try (obtain ⟨ce37, hcl37, hM37, hcc37, hfr37⟩ := Kd.N_elem HX37.out [] ((ji28) : Int) (of_decide_eq_true (g0_)) (by have h_ : ((ji28) : Int) < ((aj.length : Int) : Int) := of_decide_eq_true (g0_); first | exact h_ | (have e_ := (Kd.N_reads' ao.out).1; omega) | simpa using h_))); (try (obtain ⟨ua37_0, uc37_0, rfl, ul37_0, ge37_0⟩ := Kd.FK_slice_open hM37)); (try (have HP37 := Kd.N_seg HX37.out ((ji28) : Int) (of_decide_eq_true (g0_)) (by have h_ : ((ji28) : Int) < ((aj.length : Int) : Int) := of_decide_eq_true (g0_); first | exact h_ | (have e_ := (Kd.N_reads' ao.out).1; omega) | simpa using h_) (seg := [.slice ty (rd_L1 aj bs).length tz]) (j := 0) hcl37 hcc37 (show 1 ≤ 1 from by decide) (x' := rd_L1 aj bs) (Kd.FK_slice_mk (Kd.V_reads' (Kd.V_mono (ok' := (fun k_ => ((fun k_ => (w.heap.size ≤ k_) ∧ k_ ≠ ax)) k_ ∧ k_ ≠ be)) (fg.out) (fun k_ hk => ⟨⟨hk.1.1, hk.1.2⟩, fun e_ => (hk.2) (g5_)⟩))).2.1 (Kd.V_F (Kd.V_mono (ok' := (fun k_ => ((fun k_ => (w.heap.size ≤ k_) ∧ k_ ≠ ax)) k_ ∧ k_ ≠ be)) (fg.out) (fun k_ hk => ⟨⟨hk.1.1, hk.1.2⟩, fun e_ => (hk.2) (g5_)⟩)))) (fun _ hk => hk))); (try (have sh := hcc37 0 _ rfl)); (try (try simp only [show ((Kd.slice 3 (Kd.int .i64))).sz = 1 from rfl, Nat.mul_one, Nat.add_zero] at sh)); (try (have hf37_0 := hfr37 0)); (try (try simp only [show ((Kd.slice 3 (Kd.int .i64))).sz = 1 from rfl, Nat.mul_one, Nat.add_zero] at hf37_0)); (try (clear hcl37 hcc37 hfr37 hM37)); (try (try simp only [show ((Kd.slice 3 (Kd.int .i64))).sz = 1 from rfl, Nat.mul_one, Nat.add_zero] at HP37)); (try (try simp only [show ((Kd.slice 3 (Kd.int .i64))).sz = 1 from rfl, Nat.mul_one, Nat.add_zero] at HP37)))); refine store_event (t := 22) (p := 65) (v := ?vo_w38) (w1 := (fw.setCell ⟨be, ((ji28) : Int).toNat, none⟩ (.slice ty (rd_L1 aj bs).length tz))) ?hg ?ho ?hn ?hr ?_; (case ho => rfl); (case hg => rfl); (case hn => rfl); (case hr => first | (go_simp; done) | (go_simp; rfl)); intro si hw; have hg : fw.grownBy si (some be) := (by rw [hw]; exact HP37.2); have hp_ : Kd.N (Kd.slice 3 (Kd.int .i64)) 22 si w.heap.size (fun k_ => (w.heap.size ≤ k_) ∧ k_ ≠ ax) (.slice (some ⟨be, 0, none⟩) aj.length ck) at8 := (by rw [hw, cd2.out]; exact HP37.1); clear HP37; replace bk := Aside0.mk (blk_grown (g := ax) (o := .cells #[.slice ag ab.length ae, .slice ah aa.length af] 25 (0, 0)) (uf0_ bk) hg (Kd.N_ne ao.out bk.out (by decide))); replace ao := Aside0.mk (hp_); replace i9 := Aside0.mk (Kd.V_afterv (v := (.slice (some ⟨be, 0, none⟩) aj.length ck)) (v1 := (.slice (some ⟨be, 0, none⟩) aj.length ck)) (ok := (fun k_ => (w.heap.size ≤ k_) ∧ k_ ≠ ax)) (uf5_ i9) hg (.inl rfl)); replace ja := Aside0.mk (Kd.V_afterv (v := (.slice (some ⟨be, 0, none⟩) aj.length ck)) (v1 := (.slice (some ⟨be, 0, none⟩) aj.length ck)) (ok := (fun k_ => (w.heap.size ≤ k_) ∧ k_ ≠ ax)) (uf5_ ja) hg (.inl rfl)); replace fg := Aside0.mk (Kd.V_afterv (v := (.slice (some ⟨be, 0, none⟩) aj.length ck)) (v1 := (.slice (some ⟨be, 0, none⟩) aj.length ck)) (ok := (fun k_ => (w.heap.size ≤ k_) ∧ k_ ≠ ax)) (uf5_ fg) hg (.inl rfl)); replace fh := Aside0.mk (Kd.V_afterv (v := (.slice (some ⟨be, 0, none⟩) aj.length ck)) (v1 := (.slice (some ⟨be, 0, none⟩) aj.length ck)) (ok := (fun k_ => (w.heap.size ≤ k_) ∧ k_ ≠ ax)) (uf5_ fh) hg (.inl rfl)); replace HB := Aside0.mk ((g43_ : Below w.heap.size w si)); clear hg hw hp_)))
          (try simp only [← yr])
          go_roundg k3
          case measure => have := HJ1.out; have := HK2.out; have := HK3.out; omega
          case rel => exact ⟨(at8), (ji28), (by first | rfl | (simp; done) | (simp only [← hji28] <;> (first | rfl | simp)) | (simp [*]; done)), H', ⟨g82_⟩, ⟨g83_⟩, ⟨g84_⟩, ⟨dr⟩⟩
         ·replace ov := Bool.eq_false_iff.mpr ov
          subst ov
          replace H := ifn_ H
          have H' := Aside0.mk H
          clear H
          have vi : 0 ≤ (bs : Int) := of_decide_eq_true (g0_)
          have vj : bs < (aj.length : Int) := of_decide_eq_true (g0_)
          obtain ⟨vk, ty, tz, cd3, vl, at9, au0⟩ := at_L1 (Kd.N_reads' ao.out).2.2 bs vi vj
          cases cd3
          obtain ⟨ce240, hce240, hMe240, hcc240⟩ := Kd.N_get ao.out [] bs vi (by first | exact vj | exact of_decide_eq_true (g0_) | (have e_ := (Kd.N_reads' ao.out).1; omega))
          obtain ⟨ua240_0, uc240_0, rfl, ul240_0, ge240_0⟩ := Kd.FK_slice_open hMe240
          have hv240_0 := hcc240 0 _ rfl
          rw [Nat.add_zero, show ((Kd.slice 3 (Kd.int .i64))).sz = 1 from rfl, Nat.mul_one] at hv240_0
          replace hv240_0 := Option.some.inj (hv240_0.symm.trans vl)
          injection hv240_0 with hva_ hvn_ hvc_
          rw [hva_] at ge240_0
          rw [hvc_] at ul240_0
          have i9 := Aside0.mk (show Kd.V (Kd.int .i64) 3 _ w.heap.size _ _ (rd_L1 aj bs) from Kd.V_mk ul240_0 ge240_0)
          clear hva_ hvn_ hvc_ ge240_0 ul240_0
          clear hcc240 hce240
          have cd4 := Aside0.mk au0
          have ad3 := Aside0.mk at9
          clear au0 at9
          replace vi := eq_true vi
          replace vj := eq_true vj
          have vm : 0 ≤ ((ji28) : Int) := of_decide_eq_true (g0_)
          have vn : (ji28) < (aj.length : Int) := of_decide_eq_true (g0_)
          obtain ⟨cd5, t0, t1, cd6, vo, au1, au2⟩ := at_L1 (Kd.N_reads' ao.out).2.2 (ji28) vm vn
          obtain rfl : vk = cd5 := (by injection cd6)
          obtain ⟨ce241, hce241, hMe241, hcc241⟩ := Kd.N_get ao.out [] (ji28) vm (by first | exact vn | exact of_decide_eq_true (g0_) | (have e_ := (Kd.N_reads' ao.out).1; omega))
          obtain ⟨ua241_0, uc241_0, rfl, ul241_0, ge241_0⟩ := Kd.FK_slice_open hMe241
          have hv241_0 := hcc241 0 _ rfl
          rw [Nat.add_zero, show ((Kd.slice 3 (Kd.int .i64))).sz = 1 from rfl, Nat.mul_one] at hv241_0
          replace hv241_0 := Option.some.inj (hv241_0.symm.trans vo)
          injection hv241_0 with hva_ hvn_ hvc_
          rw [hva_] at ge241_0
          rw [hvc_] at ul241_0
          have ja := Aside0.mk (show Kd.V (Kd.int .i64) 3 _ w.heap.size _ _ (rd_L1 aj (ji28)) from Kd.V_mk ul241_0 ge241_0)
          clear hva_ hvn_ hvc_ ge241_0 ul241_0
          clear hcc241 hce241
          have cd7 := Aside0.mk au2
          have ad4 := Aside0.mk au1
          clear au2 au1
          replace vm := eq_true vm
          replace vn := eq_true vn
          go_wp2_with (first | (go_at_call 114; (with_reducible refine (spec_l3Before.calls k3 _ _ (rd_L1 aj bs) _ _ (rd_L1 aj (ji28)) false _ ?side1 ?side2 ?side3 ?side4 ys.out).mono ?_); (case side1 => repeat (first | exact (g41_) | (with_reducible refine Kd.C_alloc ?_ _) | (with_reducible refine Kd.C_drewN ?_ _) | (with_reducible refine Kd.C_drew ?_))); (case side2 => exact ad3.out); (case side3 => repeat (first | exact (g42_) | (with_reducible refine Kd.C_alloc ?_ _) | (with_reducible refine Kd.C_drewN ?_ _) | (with_reducible refine Kd.C_drew ?_))); (case side4 => exact ad4.out); rintro e w' ⟨rfl, ⟨nd, rfl⟩⟩; (try first | exact ⟨rfl, _, World.drewN_drewN _ _ _⟩ | exact ⟨rfl, _, Eq.trans (World.drewN_drewN _ _ _) (congrArg (World.drewN _) (Nat.add_assoc _ _ _))⟩)))
          repeat (go_quiet (first | (go_at_call 114; (with_reducible refine (spec_l3Before.calls k3 _ _ (rd_L1 aj bs) _ _ (rd_L1 aj (ji28)) false _ ?side1 ?side2 ?side3 ?side4 ys.out).mono ?_); (case side1 => repeat (first | exact (g41_) | (with_reducible refine Kd.C_alloc ?_ _) | (with_reducible refine Kd.C_drewN ?_ _) | (with_reducible refine Kd.C_drew ?_))); (case side2 => exact ad3.out); (case side3 => repeat (first | exact (g42_) | (with_reducible refine Kd.C_alloc ?_ _) | (with_reducible refine Kd.C_drewN ?_ _) | (with_reducible refine Kd.C_drew ?_))); (case side4 => exact ad4.out); rintro e w' ⟨rfl, ⟨nd, rfl⟩⟩; (try first | exact ⟨rfl, _, World.drewN_drewN _ _ _⟩ | exact ⟨rfl, _, Eq.trans (World.drewN_drewN _ _ _) (congrArg (World.drewN _) (Nat.add_assoc _ _ _))⟩))); try go_wp2_with (first | (go_at_call 114; (with_reducible refine (spec_l3Before.calls k3 _ _ (rd_L1 aj bs) _ _ (rd_L1 aj (ji28)) false _ ?side1 ?side2 ?side3 ?side4 ys.out).mono ?_); (case side1 => repeat (first | exact (g41_) | (with_reducible refine Kd.C_alloc ?_ _) | (with_reducible refine Kd.C_drewN ?_ _) | (with_reducible refine Kd.C_drew ?_))); (case side2 => exact ad3.out); (case side3 => repeat (first | exact (g42_) | (with_reducible refine Kd.C_alloc ?_ _) | (with_reducible refine Kd.C_drewN ?_ _) | (with_reducible refine Kd.C_drew ?_))); (case side4 => exact ad4.out); rintro e w' ⟨rfl, ⟨nd, rfl⟩⟩; (try first | exact ⟨rfl, _, World.drewN_drewN _ _ _⟩ | exact ⟨rfl, _, Eq.trans (World.drewN_drewN _ _ _) (congrArg (World.drewN _) (Nat.add_assoc _ _ _))⟩))))
          (try simp only [← yr])
          go_roundg k3
          case measure => have := HJ1.out; have := HK2.out; have := HK3.out; omega
          case rel => exact ⟨(aj), (wrap64 (a8 + 1)), (g3_), H', ⟨g82_⟩, ⟨g83_⟩, ⟨g84_⟩, ⟨dr⟩⟩
        ·rw [if_neg lg] at H
         have be1 := decide_eq_false lg
         clear lg
         have H' := Aside0.mk H
         clear H
         go_wp2
         repeat (go_quiet (fail); try go_wp2)
         (try simp only [← yr])
         go_roundg k3
         case measure => have := HJ1.out; have := HK2.out; have := HK3.out; omega
         case rel => exact ⟨(aj), (wrap64 (a8 + 1)), (g3_), H', ⟨g82_⟩, ⟨g83_⟩, ⟨g84_⟩, ⟨dr⟩⟩
     ·rw [if_neg jo] at H
      have ag8 := decide_eq_false jo
      clear jo
      obtain rfl := Option.some.inj H
      obtain ⟨fm, fi, yz⟩ := Kd.N_slice ao.out
      subst yz
      go_wp2
      repeat (go_quiet (fail); try go_wp2)
      go_ret
      exact ⟨_, g4_, by (with_reducible repeat (first | apply Kd.N_alloc | apply Kd.N_drewN | apply Kd.N_drew)); exact Kd.N_mono ao.out (fun _ hk => hk.1), dr⟩
mutual
def spec_l3Struck.l0 : Nat → List Int → Int → Int → List Int → List (List Int) → List Int → List (List Int) → Option (List Int × (List (List Int)))
 | 0, _, _, _, _, _, _, _ => none
 | k + 1, x1, x6, x7, bk8, t2, au9, za => if x7 < (x1.length : Int) then (if 0 ≤ x7 then (if 0 ≤ (rd x1 x7) then (if (rd x1 x7) < (t2.length : Int) then (if (x1.length : Int) = 0 then (none) else (if 0 ≤ (Int.tmod (wrap64 (x7 + 1)) (x1.length : Int)) then (if (Int.tmod (wrap64 (x7 + 1)) (x1.length : Int)) < (x1.length : Int) then (if 0 ≤ (rd x1 (Int.tmod (wrap64 (x7 + 1)) (x1.length : Int))) then (if (rd x1 (Int.tmod (wrap64 (x7 + 1)) (x1.length : Int))) < ((rd_L1 t2 (rd x1 x7)).length : Int) then (spec_l3Struck.l0 k x1 (mn x6 (rd (rd_L1 t2 (rd x1 x7)) (rd x1 (Int.tmod (wrap64 (x7 + 1)) (x1.length : Int))))) (wrap64 (x7 + 1)) bk8 t2 au9 za) else (none)) else (none)) else (none)) else (none))) else (none)) else (none)) else (none)) else (spec_l3Struck.l1 k x1 x6 0 bk8 t2 au9 za)
def spec_l3Struck.l1 : Nat → List Int → Int → Int → List Int → List (List Int) → List Int → List (List Int) → Option (List Int × (List (List Int)))
 | 0, _, _, _, _, _, _, _ => none
 | k + 1, x1, x6, x8, bk8, t2, au9, za => if x8 < (x1.length : Int) then (if 0 ≤ x8 then (if (x1.length : Int) = 0 then (none) else (if 0 ≤ (Int.tmod (wrap64 (x8 + 1)) (x1.length : Int)) then (if (Int.tmod (wrap64 (x8 + 1)) (x1.length : Int)) < (x1.length : Int) then (if 0 ≤ (rd x1 x8) then (if (rd x1 x8) < (za.length : Int) then (if (rd x1 x8) < (t2.length : Int) then (if 0 ≤ (rd x1 (Int.tmod (wrap64 (x8 + 1)) (x1.length : Int))) then (if (rd x1 (Int.tmod (wrap64 (x8 + 1)) (x1.length : Int))) < ((rd_L1 t2 (rd x1 x8)).length : Int) then (if (rd x1 (Int.tmod (wrap64 (x8 + 1)) (x1.length : Int))) < ((rd_L1 za (rd x1 x8)).length : Int) then (spec_l3Struck.l1 k x1 x6 (wrap64 (x8 + 1)) bk8 t2 au9 (za.set ((rd x1 x8) : Int).toNat ((rd_L1 za (rd x1 x8)).set ((rd x1 (Int.tmod (wrap64 (x8 + 1)) (x1.length : Int))) : Int).toNat (wrap64 ((rd (rd_L1 t2 (rd x1 x8)) (rd x1 (Int.tmod (wrap64 (x8 + 1)) (x1.length : Int)))) - x6))))) else (none)) else (none)) else (none)) else (none)) else (none)) else (none)) else (none)) else (none))) else (none)) else (some (au9, za))
end
def spec_l3Struck.f (k : Nat) (ab : List Int) (aa : List (List Int)) (l1 : List Int) : Option (List Int × (List (List Int))) := (spec_l2Copy.f k ab aa).bind fun bt249 => (spec_l3Struck.l0 k l1 9 0 ab aa bt249.1 bt249.2)
theorem spec_l3Struck.mq {p : Prop} (h : p := by
 repeat' first
 | (with_reducible exact ih0 _ _ _ _ _ _ _)
 | (with_reducible exact ih1 _ _ _ _ _ _ _)
 | (with_reducible exact spec_l2Copy.mono _ _ _)
 | (with_reducible exact LeO.refl _)
 | (with_reducible exact LeO.none _)
 | (with_reducible refine LeO.ite ?_ ?_)
 | (with_reducible refine LeO.bind ?_ (fun _ => ?_))
 | exact ih0 _ _ _ _ _ _ _
 | exact ih1 _ _ _ _ _ _ _
 | exact spec_l2Copy.mono _ _ _
 | exact LeO.none _
 | refine LeO.ite ?_ ?_
 | refine LeO.bind ?_ (fun _ => ?_)) : p := h
theorem spec_l3Struck.mono_l : ∀ k, (∀ y0 y1 y2 y3 y4 y5 y6, LeO (spec_l3Struck.l0 k y0 y1 y2 y3 y4 y5 y6) (spec_l3Struck.l0 (k + 1) y0 y1 y2 y3 y4 y5 y6)) ∧ (∀ y0 y1 y2 y3 y4 y5 y6, LeO (spec_l3Struck.l1 k y0 y1 y2 y3 y4 y5 y6) (spec_l3Struck.l1 (k + 1) y0 y1 y2 y3 y4 y5 y6))
 | 0 => ⟨fun _ _ _ _ _ _ _ r h => by simp [spec_l3Struck.l0] at h, fun _ _ _ _ _ _ _ r h => by simp [spec_l3Struck.l1] at h⟩
 | k + 1 => by
  obtain ⟨ih0, ih1⟩ := spec_l3Struck.mono_l k
  refine ⟨?_, ?_⟩
  ·intro y0 y1 y2 y3 y4 y5 y6
   unfold spec_l3Struck.l0
   exact spec_l3Struck.mq
  ·intro y0 y1 y2 y3 y4 y5 y6
   unfold spec_l3Struck.l1
   exact spec_l3Struck.mq
theorem spec_l3Struck.mono : ∀ a0 a1 a2 k, LeO (spec_l3Struck.f k a0 a1 a2) (spec_l3Struck.f (k + 1) a0 a1 a2) := by
 intro a0 a1 a2 k
 obtain ⟨ih0, ih1⟩ := spec_l3Struck.mono_l k
 unfold spec_l3Struck.f
 exact spec_l3Struck.mq
def spec_l3Struck.T6 : Bool × List (List Nat × List Nat) := (true, [([], []), ([], []), ([1], [1]), ([], []), ([], []), ([3, 4], [3, 4]), ([5], [5]), ([2, 6], [2, 6]), ([7], [7]), ([], []), ([], []), ([10], [10]), ([], []), ([12], [12]), ([11, 13], [11, 13]), ([9, 14], [9, 14]), ([15], [15]), ([8, 16], [8, 16]), ([17], [17]), ([0, 18], [0, 18]), ([19, 0, 1, 2, 3, 4, 5, 6, 7, 8, 9, 10, 11, 12, 13, 14, 15, 16, 17, 18, 19], [0, 19])])
def spec_l3Struck.B6 : List Nat := [0, 0, 2, 0, 0, 24, 56, 126, 254, 0, 0, 1024, 0, 4096, 15360, 32256, 65024, 131070, 262142, 524287, 1048575]
theorem spec_l3Struck.tab6 : rtab .any (opsOf Try.f98 6) = spec_l3Struck.T6 := by kernel_rfl
theorem spec_l3Struck.bits6 : waitsOk spec_l3Struck.T6.2 spec_l3Struck.B6 = true := by kernel_rfl
def spec_l3Struck.T12 : Bool × List (List Nat × List Nat) := (true, [([], []), ([0], [0]), ([], []), ([1, 2], [1, 2]), ([3], [3]), ([], []), ([], []), ([6], [6]), ([], []), ([7, 8], [7, 8]), ([9], [9]), ([], []), ([10, 11], [10, 11]), ([12], [12]), ([], []), ([13, 14], [13, 14]), ([4, 5, 0, 1, 2, 3, 4, 5, 6, 7, 8, 9, 10, 11, 12, 13, 14, 15], [4, 5]), ([16, 15, 0, 1, 2, 3, 4, 5, 6, 7, 8, 9, 10, 11, 12, 13, 14, 15], [15, 16])])
def spec_l3Struck.B12 : List Nat := [0, 1, 0, 7, 15, 0, 0, 64, 0, 448, 960, 0, 4032, 8128, 0, 32704, 65535, 131071]
theorem spec_l3Struck.tab12 : rtab .any (opsOf Try.f98 12) = spec_l3Struck.T12 := by kernel_rfl
theorem spec_l3Struck.bits12 : waitsOk spec_l3Struck.T12.2 spec_l3Struck.B12 = true := by kernel_rfl
theorem rq {p : Prop} (h : p := by repeat (first | (with_reducible first | exact HB.out | apply below_alloc | apply pw_below_drewN | apply below_drew1 | refine below_set ?_ ek6.out | refine below_set ?_ ek7.out | refine below_set ?_ ek8.out | refine below_set ?_ GB39.out) | exact HB.out)) : p := h
set_option maxHeartbeats 8000000 in
set_option maxRecDepth 100000 in
theorem spec_l3Struck.calls (k : Nat) (ag : Option Addr) (ae : Nat) (ab : List Int) (ah : Option Addr) (af : Nat) (aa : List (List Int)) (A1 : Option Addr) (c1 : Nat) (l1 : List Int) (r1 : List Int) (r2 : List (List Int)) (w : World) (dx : Kd.C (Kd.int .i64) w ag ab.length ab) (dy : ab.length ≤ ae) (dz : Kd.C (Kd.slice 3 (Kd.int .i64)) w ah aa.length aa) (d2 : aa.length ≤ af) (nr : Kd.C (Kd.int .i64) w A1 l1.length l1) (ns : l1.length ≤ c1) (h : spec_l3Struck.f k ab aa l1 = some (r1, r2)) :
  Calls Try.prog 98 #[.agg #[.slice ag ab.length ae, .slice ah aa.length af], .slice A1 l1.length c1] w fun e w' => ∃ v0_ v1_ : Value, e = .returned (.agg #[v0_, v1_]) ∧ Kd.R (Kd.int .i64) 3 w' w.heap.size (fun _ => True) v0_ r1 ∧ Kd.S (Kd.slice 3 (Kd.int .i64)) 22 w' w.heap.size (fun k_ => some k_ ≠ (v0_ : Value).ownBlock) v1_ r2 ∧ Below w.heap.size w w' := by
 have hu25 := Try.underlying25
 have dd := Aside0.mk dx
 have d6 := Aside0.mk dy
 clear dx dy
 have cq := Aside0.mk dz
 have d7 := Aside0.mk d2
 clear dz d2
 have ig := Aside0.mk nr
 have un := Aside0.mk ns
 clear nr ns
 have HB := Aside0.mk (Below.refl w.heap.size w)
 have H : ((spec_l2Copy.f k ab aa).bind fun bt249 => (spec_l3Struck.l0 k l1 9 0 ab aa bt249.1 bt249.2)) = some (r1, r2) := h
 clear h
 replace H := Option.bind_eq_some_iff.mp H
 obtain ⟨⟨pu, sj⟩, mj, H⟩ := H
 try dsimp only at H
 have A3 := Aside0.mk mj
 clear mj
 have H' := Aside0.mk H
 clear H
 go_enter Try.func98, Try.ntmps98
 go_wp2_with (first | ((with_reducible refine gate_dst (N := 2) rfl ?_); refine bx_ (N := 2) #[.slice ag ab.length ae, .slice ah aa.length af] 25 ?_; intro nf hg w4 hbox hb; have ia := Aside0.mk (hbox); have fv3 := Aside0.mk ((g44_ : w.heap.size ≤ nf)); have ek6 := Aside0.mk ((g44_ : w.heap.size ≤ nf)); replace HB := Aside0.mk (below_step (rq) hb); clear hb hbox hg) | ((with_reducible refine gate_dst (N := 4) rfl ?_); refine bx_ (N := 4) #[.slice none 0 0, .slice none 0 0] 25 ?_; intro n2 hg w5 hbox hb; have jr := Aside0.mk (hbox); have fv4 := Aside0.mk ((g44_ : w.heap.size ≤ n2)); have ek7 := Aside0.mk ((g44_ : w.heap.size ≤ n2)); replace HB := Aside0.mk (below_step (rq) hb); have dc0 := Aside0.mk ((by rw [hg]; exact Nat.ne_of_lt (blk_lt (g := nf) (o := .cells #[.slice ag ab.length ae, .slice ah aa.length af] 25 (0, 0)) (uf0_ ia)) : nf ≠ n2)); have dc1 := Aside0.mk ((by rw [hg]; exact Nat.ne_of_gt (blk_lt (g := nf) (o := .cells #[.slice ag ab.length ae, .slice ah aa.length af] 25 (0, 0)) (uf0_ ia)) : n2 ≠ nf)); replace ia := bb_ ia hb; clear hb hbox hg; have fv5 := dc0.out; have fv6 := dc1.out; obtain ⟨te, tf, tg, th⟩ := blk2_ ia) | ((with_reducible refine gate_callee (f := 80) rfl ?_); refine goesL_ (some 12) rfl rfl Try.func80 k_ rfl #[.agg #[.slice ag ab.length ae, .slice ah aa.length af]] rfl (g2_) ?_; (with_reducible refine (spec_l2Copy.calls k _ _ ab _ _ aa pu sj _ ?side1 ?side2 ?side3 ?side4 A3.out).mono ?_); (case side1 => exact uf1_ dd); (case side2 => exact d6.out); (case side3 => exact uf1_ cq); (case side4 => exact d7.out); rintro e w8 ⟨fv7, fv8, rfl, am, ba, hb⟩; refine ⟨_, rfl, ?_⟩; have bk9 := Aside0.mk (Kd.R_lower am (below_size (rq))); have bl0 := Aside0.mk (Kd.S_lower ba (below_size (rq))); replace ia := bb_ ia hb; replace jr := bb_ jr hb; replace HB := Aside0.mk (below_step (rq) hb); (try clear hb); (try clear hk hi); (try clear am); (try clear ba)) | ((with_reducible refine gate_dst (N := 5) rfl ?_); refine bx_ (N := 5) #[.slice none 0 0, .slice none 0 0] 25 ?_; intro oy hg w9 hbox hb; replace bk9 := Aside0.mk (Kd.R_below (uf2_ bk9) hb); replace bl0 := Aside0.mk (Kd.S_below (uf3_ bl0) hb); have lj := Aside0.mk (hbox); have fv9 := Aside0.mk ((g44_ : w.heap.size ≤ oy)); have ek8 := Aside0.mk ((g44_ : w.heap.size ≤ oy)); replace HB := Aside0.mk (below_step (rq) hb); have bl1 := Aside0.mk ((by rw [hg]; exact Nat.ne_of_lt (blk_lt (g := nf) (o := .cells #[.slice ag ab.length ae, .slice ah aa.length af] 25 (0, 0)) (uf0_ ia)) : nf ≠ oy)); have dc2 := Aside0.mk ((by rw [hg]; exact Nat.ne_of_gt (blk_lt (g := nf) (o := .cells #[.slice ag ab.length ae, .slice ah aa.length af] 25 (0, 0)) (uf0_ ia)) : oy ≠ nf)); replace ia := bb_ ia hb; have bl2 := Aside0.mk ((by rw [hg]; exact Nat.ne_of_lt (blk_lt (g := n2) (o := .cells #[.slice none 0 0, .slice none 0 0] 25 (0, 0)) (uf0_ jr)) : n2 ≠ oy)); have dc3 := Aside0.mk ((by rw [hg]; exact Nat.ne_of_gt (blk_lt (g := n2) (o := .cells #[.slice none 0 0, .slice none 0 0] 25 (0, 0)) (uf0_ jr)) : oy ≠ n2)); replace jr := bb_ jr hb; clear hb hbox hg; obtain ⟨gd, gf, aq3⟩ := Kd.R_slice bk9.out; subst aq3; have ar0 := dc2.out; have ar1 := bl1.out; have bw4 := dc3.out; have bw5 := bl2.out; obtain ⟨qq, qr, qs, qt⟩ := blk2_ lj; obtain ⟨av0, av1, ek9⟩ := Kd.S_slice bl0.out; subst ek9))
 go_loopg [6, 7] k (fun kq v6 v7 w' => ∃ (j4 : Int) (jb : Int), v6 = .int .i64 j4 ∧ v7 = .int .i64 jb ∧ Aside0 (spec_l3Struck.l0 kq l1 j4 jb ab aa pu sj = some (r1, r2)) ∧ Aside0 (kq ≤ k) ∧ Aside0 (Kd.R (Kd.int .i64) 3 w' w.heap.size (fun _ => True) (.slice gd pu.length gf) pu) ∧ Aside0 (Kd.S (Kd.slice 3 (Kd.int .i64)) 22 w' w.heap.size (fun k_ => some k_ ≠ ((.slice gd pu.length gf) : Value).ownBlock) (.slice av0 sj.length av1) sj) ∧ Aside0 (w'.heap[nf]? = some (.cells #[(.slice ag ab.length ae), (.slice ah aa.length af)] 25 (0, 0))) ∧ Aside0 (w'.heap[n2]? = some (.cells #[(.slice none 0 0), (.slice none 0 0)] 25 (0, 0))) ∧ Aside0 (w'.heap[oy]? = some (.cells #[(.slice gd pu.length gf), (.slice av0 sj.length av1)] 25 (0, 0))) ∧ Aside0 (Below w.heap.size w w'))
 case atStart => exact ⟨(9), (0), (g3_), (g3_), H', ⟨Nat.le_refl _⟩, ⟨by (with_reducible repeat (first | apply Kd.R_alloc | apply Kd.R_drewN | apply Kd.R_drew)); exact Kd.R_mono (Kd.R_far (p := ⟨oy, 1, none⟩) (Kd.R_far (p := ⟨oy, 0, none⟩) (Kd.R_types bk9.out lj.out (by decide)) (fun _ hk => hk.2) (.slice gd pu.length gf)) (fun _ hk => hk.2) (.slice av0 sj.length av1)) (fun _ hk => trivial)⟩, ⟨by (with_reducible repeat (first | apply Kd.S_alloc | apply Kd.S_drewN | apply Kd.S_drew)); exact Kd.S_mono (Kd.S_far (p := ⟨oy, 1, none⟩) (Kd.S_far (p := ⟨oy, 0, none⟩) (Kd.S_types bl0.out lj.out (by decide)) (fun _ hk => hk.2) (.slice gd pu.length gf)) (fun _ hk => hk.2) (.slice av0 sj.length av1)) (fun _ hk => hk.1)⟩, ⟨by (with_reducible repeat (first | refine blk_drewN ?_ _ | refine blk_drew ?_ | refine blk_alloc ?_ _)); refine blk_far ?_ bl1.out _; refine blk_far ?_ bl1.out _; exact uf0_ ia⟩, ⟨by (with_reducible repeat (first | refine blk_drewN ?_ _ | refine blk_drew ?_ | refine blk_alloc ?_ _)); refine blk_far ?_ bl2.out _; refine blk_far ?_ bl2.out _; exact uf0_ jr⟩, ⟨by (with_reducible repeat (first | refine blk_drewN ?_ _ | refine blk_drew ?_ | refine blk_alloc ?_ _)); refine blk_put (cs := #[.slice gd pu.length gf, .slice none 0 0]) ?_ 1 _ rfl; refine blk_put (cs := #[.slice none 0 0, .slice none 0 0]) ?_ 0 _ rfl; exact uf0_ lj⟩, ⟨rq⟩⟩
 case round =>
  clear H'
  try clear c1
  try clear p2
  try clear c6
  try clear c8
  try clear c9
  try clear kn
  try clear hx
  try clear qq
  try clear qr
  try clear te
  try clear tf
  try clear qs
  try clear qt
  try clear tg
  try clear th
  obtain ⟨j4, jb, rfl, rfl, HA, HK1, q6, lq, ia, jr, lj, HB⟩ := hrel
  cases gk with
  | zero => exact absurd HA.out (by simp [spec_l3Struck.l0])
  | succ k1 =>
   have H := HA.out
   clear HA
   simp only [spec_l3Struck.l0] at H
   by_cases ee : jb < (l1.length : Int)
   ·rw [if_pos ee] at H
    have l9 := decide_eq_true ee
    clear ee
    obtain ⟨f7, H⟩ := pos_ H
    have xb := decide_eq_true f7
    clear f7
    obtain ⟨fa, H⟩ := pos_ H
    have ti := decide_eq_true fa
    clear fa
    obtain ⟨fu, H⟩ := pos_ H
    have ai7 := decide_eq_true fu
    clear fu
    by_cases dl : (l1.length : Int) = 0
    ·rw [if_pos dl] at H
     exact absurd H (by simp)
    ·rw [if_neg dl] at H
     have lr : ((l1.length : Int) == 0) = false := beq_eq_false_iff_ne.mpr dl
     have pv : ((l1.length : Int) != 0) = true := bne_iff_ne.mpr dl
     have ak6 : ¬ (l1 = []) := fun h_ => dl (by rw [h_]; rfl)
     obtain ⟨ji20, hji20⟩ : ∃ j_ : Int, (Int.tmod (wrap64 (jb + 1)) (l1.length : Int)) = j_ := ⟨_, rfl⟩
     replace H : (if 0 ≤ (ji20) then (if (ji20) < (l1.length : Int) then (if 0 ≤ (rd l1 (ji20)) then (if (rd l1 (ji20)) < ((rd_L1 aa (rd l1 jb)).length : Int) then (spec_l3Struck.l0 k1 l1 (mn j4 (rd (rd_L1 aa (rd l1 jb)) (rd l1 (ji20)))) (wrap64 (jb + 1)) ab aa pu sj) else (none)) else (none)) else (none)) else (none)) = some (r1, r2) := by first | (rw [hji20] at H; exact H) | (simp only [hji20] at H ⊢; exact H)
     obtain ⟨ip, H⟩ := pos_ H
     have cd8 := decide_eq_true ip
     clear ip
     obtain ⟨ii, H⟩ := pos_ H
     have xe := decide_eq_true ii
     clear ii
     obtain ⟨jo, H⟩ := pos_ H
     have ag8 := decide_eq_true jo
     clear jo
     obtain ⟨fn, H⟩ := pos_ H
     have pf := decide_eq_true fn
     clear fn
     obtain ⟨ji25, hji25⟩ : ∃ j_ : Int, (mn j4 (rd (rd_L1 aa (rd l1 jb)) (rd l1 (ji20)))) = j_ := ⟨_, rfl⟩
     replace H : (spec_l3Struck.l0 k1 l1 ji25 (wrap64 (jb + 1)) ab aa pu sj) = some (r1, r2) := by first | (rw [hji25] at H; exact H) | (simp only [hji25] at H ⊢; exact H)
     have hji25_ : (if (rd (rd_L1 aa (rd l1 jb)) (rd l1 (ji20))) < j4 then (rd (rd_L1 aa (rd l1 jb)) (rd l1 (ji20))) else j4) = ji25 := hji25
     have H' := Aside0.mk H
     clear H
     try go_wp2
     replace q6 := Aside0.mk (Kd.R_drew q6.out)
     replace lq := Aside0.mk (Kd.S_drew lq.out)
     replace ia := Aside0.mk (blk_drew ia.out)
     replace jr := Aside0.mk (blk_drew jr.out)
     replace lj := Aside0.mk (blk_drew lj.out)
     replace HB := Aside0.mk (below_drew1 HB.out)
     have bl3 : 0 ≤ (jb : Int) := of_decide_eq_true (g0_)
     have bl4 : jb < (l1.length : Int) := of_decide_eq_true (g0_)
     obtain ⟨cd9, el0, av2⟩ := Kd.at_int ig.out jb bl3 bl4
     have el1 := av2
     cases el0
     replace av2 := cl_ HB av2
     replace bl3 := eq_true bl3
     replace bl4 := eq_true bl4
     have bl5 : 0 ≤ ((rd l1 jb) : Int) := of_decide_eq_true (g0_)
     have bl6 : (rd l1 jb) < (aa.length : Int) := of_decide_eq_true (g0_)
     obtain ⟨dc4, fw0, el2, el3, av3, dc5, dc6⟩ := at_L1 cq.out (rd l1 jb) bl5 bl6
     have el4 := av3
     cases el3
     replace av3 := cl_ HB av3
     have dc7 := Aside0.mk dc6
     have fw1 := Aside0.mk dc5
     clear dc6 dc5
     replace bl5 := eq_true bl5
     replace bl6 := eq_true bl6
     have bl7 : 0 ≤ ((ji20) : Int) := of_decide_eq_true (g0_)
     have bl8 : (ji20) < (l1.length : Int) := of_decide_eq_true (g0_)
     obtain ⟨el5, el6, av4⟩ := Kd.at_int ig.out (ji20) bl7 bl8
     have el7 := av4
     obtain rfl : cd9 = el5 := (by injection el6)
     replace av4 := cl_ HB av4
     replace bl7 := eq_true bl7
     replace bl8 := eq_true bl8
     have bl9 : 0 ≤ ((rd l1 (ji20)) : Int) := of_decide_eq_true (g0_)
     have bm0 : (rd l1 (ji20)) < ((rd_L1 aa (rd l1 jb)).length : Int) := of_decide_eq_true (g0_)
     obtain ⟨dc8, el8, av5⟩ := Kd.at_int dc7.out (rd l1 (ji20)) bl9 bm0
     have el9 := av5
     cases el8
     replace av5 := cl_ HB av5
     replace bl9 := eq_true bl9
     replace bm0 := eq_true bm0
     refine start_ (n := 21) (S := fun w' => w'.cell? ⟨nf, 0, none⟩ = some (.slice ag ab.length ae) ∧ w'.cell? ⟨nf, 1, none⟩ = some (.slice (some dc4) aa.length af) ∧ w'.cell? (cd9.add (jb).toNat) = some (.int .i64 (rd l1 jb)) ∧ w'.cell? (dc4.add ((rd l1 jb)).toNat) = some (.slice (some dc8) (rd_L1 aa (rd l1 jb)).length el2) ∧ w'.cell? (cd9.add ((ji20)).toNat) = some (.int .i64 (rd l1 (ji20))) ∧ w'.cell? (dc8.add ((rd l1 (ji20))).toNat) = some (.int .i64 (rd (rd_L1 aa (rd l1 jb)) (rd l1 (ji20))))) (ds := []) (tl_ 21 0) (g1_) rfl (g1_) ⟨(blk_cell ia.out 0).trans rfl, (blk_cell ia.out 1).trans rfl, ((cl_ HB el1).trans rfl), ((cl_ HB el4).trans rfl), ((cl_ HB el7).trans rfl), ((cl_ HB el9).trans rfl)⟩ (fun hHeld => ?_); refine with_tabW spec_l3Struck.tab6 spec_l3Struck.bits6 (fun HT_ HW_ => ?_)
     generalize wr.drew = w26 at q6 lq ia jr lj HB dc7 av2 av3 av4 av5 hHeld ⊢
     refine pw_ 0 19 (tl_ 21 1) rfl rfl ?_
     refine pw_ 1 20 (tl_ 21 3) rfl rfl ?_
     refine pw_ 3 22 (tl_ 21 11) rfl rfl ?_
     refine pw_ 4 23 (tl_ 21 27) rfl rfl ?_
     refine pw_ 5 24 (tl_ 21 59) rfl rfl ?_
     refine pw_ 9 28 (tl_ 21 571) rfl rfl ?_
     refine pw_ 10 29 (tl_ 21 1595) rfl rfl ?_
     refine pw_ 11 30 (tl_ 21 3643) rfl rfl ?_
     refine pw_ 12 31 (tl_ 21 7739) rfl rfl ?_
     refine pw_ 13 32 (tl_ 21 15931) rfl rfl ?_
     refine pw_ 14 33 (tl_ 21 32315) rfl rfl ?_
     refine pw_ 15 34 (tl_ 21 65083) rfl rfl ?_
     refine tk0_ 2 21 (tl_ 21 65087) rfl rfl hHeld ?_
     refine tk0_ 6 25 (tl_ 21 65151) rfl rfl hHeld ?_
     refine pw_ 7 26 (tl_ 21 65279) rfl rfl ?_
     refine tk0_ 8 27 (tl_ 21 65535) rfl rfl hHeld ?_
     refine tk0_ 16 35 (tl_ 21 131071) rfl rfl hHeld ?_
     refine pw_ 17 36 (tl_ 21 262143) rfl rfl ?_
     refine tk0_ 18 37 (tl_ 21 524287) rfl rfl hHeld ?_
     refine pw_ 19 38 (tl_ 21 1048575) rfl rfl ?_
     refine pw_ 20 6 (tl_ 21 2097151) rfl rfl ?_
     refine done_ (done_of HT_.out (g1_)) ?_
     try go_wp2
     go_roundg k1
     case measure => have := HK1.out; omega
     case rel => exact ⟨(ji25), (wrap64 (jb + 1)), (by first | rfl | (simp; done) | (simp only [← hji25] <;> (first | rfl | simp)) | (simp [*]; done)), (g3_), H', ⟨g15_⟩, ⟨uf2_ q6⟩, ⟨uf3_ lq⟩, ⟨uf0_ ia⟩, ⟨uf0_ jr⟩, ⟨uf0_ lj⟩, ⟨rq⟩⟩
   ·rw [if_neg ee] at H
    have l9 := decide_eq_false ee
    clear ee
    have H' := Aside0.mk H
    clear H
    go_wp2
    go_loopg [8] k1 (fun kq v8 w' => ∃ (er : Int) (sk : List Int) (j5 : List (List Int)) (ak7 : Value) (ce0 : Value), v8 = .int .i64 er ∧ Aside0 (spec_l3Struck.l1 kq l1 j4 er ab aa sk j5 = some (r1, r2)) ∧ Aside0 (kq ≤ k1) ∧ Aside0 (Kd.R (Kd.int .i64) 3 w' w.heap.size (fun _ => True) ak7 sk) ∧ Aside0 (Kd.S (Kd.slice 3 (Kd.int .i64)) 22 w' w.heap.size (fun k_ => some k_ ≠ (ak7 : Value).ownBlock) ce0 j5) ∧ Aside0 (w'.heap[nf]? = some (.cells #[(.slice ag ab.length ae), (.slice ah aa.length af)] 25 (0, 0))) ∧ Aside0 (w'.heap[n2]? = some (.cells #[(.slice none 0 0), (.slice none 0 0)] 25 (0, 0))) ∧ Aside0 (w'.heap[oy]? = some (.cells #[ak7, ce0] 25 (0, 0))) ∧ Aside0 (Below w.heap.size w w'))
    case atStart => exact ⟨(0), (pu), (sj), (.slice gd pu.length gf), (.slice av0 sj.length av1), (g3_), H', ⟨Nat.le_refl _⟩, ⟨uf2_ q6⟩, ⟨uf3_ lq⟩, ⟨uf0_ ia⟩, ⟨uf0_ jr⟩, ⟨uf0_ lj⟩, ⟨rq⟩⟩
    case round =>
     clear H'
     try clear c1
     try clear c2
     try clear p2
     try clear q2
     try clear hx2
     try clear c6
     try clear p6
     try clear c8
     try clear c9
     try clear kn
     try clear hx
     try clear ee
     try clear l9
     try clear f7
     try clear xb
     try clear fa
     try clear ti
     try clear fu
     try clear ai7
     try clear dl
     try clear lr
     try clear pv
     try clear ak6
     try clear ip
     try clear cd8
     try clear ii
     try clear xe
     try clear jo
     try clear ag8
     try clear fn
     try clear pf
     try clear lg
     try clear p25
     try clear q25
     try clear fw2
     try clear qq
     try clear qr
     try clear te
     try clear tf
     try clear qs
     try clear qt
     try clear tg
     try clear th
     try clear av2
     try clear av3
     try clear av4
     try clear av5
     try clear p2
     try clear bl3
     try clear bl5
     try clear bl7
     try clear bl9
     try clear bl4
     try clear bl6
     try clear bl8
     try clear bm0
     obtain ⟨er, sk, j5, ak7, ce0, rfl, HA, HK2, q6, lq, ia, jr, lj, HB⟩ := hrel
     cases gk with
     | zero => exact absurd HA.out (by simp [spec_l3Struck.l1])
     | succ k2 =>
      have H := HA.out
      clear HA
      simp only [spec_l3Struck.l1] at H
      by_cases ij : er < (l1.length : Int)
      ·rw [if_pos ij] at H
       have as2 := decide_eq_true ij
       clear ij
       obtain ⟨mf, H⟩ := pos_ H
       have bx8 := decide_eq_true mf
       clear mf
       by_cases pt : (l1.length : Int) = 0
       ·rw [if_pos pt] at H
        exact absurd H (by simp)
       ·rw [if_neg pt] at H
        have ek5 : ((l1.length : Int) == 0) = false := beq_eq_false_iff_ne.mpr pt
        have fw3 : ((l1.length : Int) != 0) = true := bne_iff_ne.mpr pt
        have fw4 : ¬ (l1 = []) := fun h_ => pt (by rw [h_]; rfl)
        obtain ⟨ji30, hji30⟩ : ∃ j_ : Int, (Int.tmod (wrap64 (er + 1)) (l1.length : Int)) = j_ := ⟨_, rfl⟩
        replace H : (if 0 ≤ (ji30) then (if (ji30) < (l1.length : Int) then (if 0 ≤ (rd l1 er) then (if (rd l1 er) < (j5.length : Int) then (if (rd l1 er) < (aa.length : Int) then (if 0 ≤ (rd l1 (ji30)) then (if (rd l1 (ji30)) < ((rd_L1 aa (rd l1 er)).length : Int) then (if (rd l1 (ji30)) < ((rd_L1 j5 (rd l1 er)).length : Int) then (spec_l3Struck.l1 k2 l1 j4 (wrap64 (er + 1)) ab aa sk (j5.set ((rd l1 er) : Int).toNat ((rd_L1 j5 (rd l1 er)).set ((rd l1 (ji30)) : Int).toNat (wrap64 ((rd (rd_L1 aa (rd l1 er)) (rd l1 (ji30))) - j4))))) else (none)) else (none)) else (none)) else (none)) else (none)) else (none)) else (none)) else (none)) = some (r1, r2) := by first | (rw [hji30] at H; exact H) | (simp only [hji30] at H ⊢; exact H)
        obtain ⟨jp, H⟩ := pos_ H
        have qu := decide_eq_true jp
        clear jp
        obtain ⟨ov, H⟩ := pos_ H
        have cz0 := decide_eq_true ov
        clear ov
        obtain ⟨qv, H⟩ := pos_ H
        have by1 := decide_eq_true qv
        clear qv
        obtain ⟨li, H⟩ := pos_ H
        have as4 := decide_eq_true li
        clear li
        obtain ⟨m9, H⟩ := pos_ H
        have bk4 := decide_eq_true m9
        clear m9
        obtain ⟨jq, H⟩ := pos_ H
        have ca8 := decide_eq_true jq
        clear jq
        obtain ⟨c37, H⟩ := pos_ H
        have fw5 := decide_eq_true c37
        clear c37
        obtain ⟨vp, H⟩ := pos_ H
        have fw6 := decide_eq_true vp
        clear vp
        obtain ⟨ce1, hy265⟩ : ∃ y_ : List Int, y_ = ((rd_L1 j5 (rd l1 er)).set ((rd l1 (ji30)) : Int).toNat (wrap64 ((rd (rd_L1 aa (rd l1 er)) (rd l1 (ji30))) - j4))) := ⟨_, rfl⟩
        replace H : (spec_l3Struck.l1 k2 l1 j4 (wrap64 (er + 1)) ab aa sk (j5.set ((rd l1 er) : Int).toNat ce1)) = some (r1, r2) := by first | (rw [hy265]; with_reducible exact H) | (have H2_ := (Option.bind_some _ _).symm.trans H; rw [hy265]; with_reducible exact H2_) | (have H2_ := (Option.bind_some _ _).symm.trans H; with_reducible exact H2_) | with_reducible exact H | (rw [hy265]; exact H) | exact H
        have em0 := Aside0.mk hy265
        clear hy265
        obtain ⟨dc9, hy267⟩ : ∃ y_ : List (List Int), y_ = (j5.set ((rd l1 er) : Int).toNat ce1) := ⟨_, rfl⟩
        replace H : (spec_l3Struck.l1 k2 l1 j4 (wrap64 (er + 1)) ab aa sk dc9) = some (r1, r2) := by first | (rw [hy267]; with_reducible exact H) | (have H2_ := (Option.bind_some _ _).symm.trans H; rw [hy267]; with_reducible exact H2_) | (have H2_ := (Option.bind_some _ _).symm.trans H; with_reducible exact H2_) | with_reducible exact H | (rw [hy267]; exact H) | exact H
        have em1 := Aside0.mk hy267
        clear hy267
        have H' := Aside0.mk H
        clear H
        have ce2 : 0 ≤ (er : Int) := of_decide_eq_true (g0_)
        have ce3 : er < (l1.length : Int) := of_decide_eq_true (g0_)
        obtain ⟨em2, em3, dd0⟩ := Kd.at_int ig.out er ce2 ce3
        cases em3
        replace dd0 := cl_ HB dd0
        replace ce2 := eq_true ce2
        replace ce3 := eq_true ce3
        have ce4 : 0 ≤ ((ji30) : Int) := of_decide_eq_true (g0_)
        have ce5 : (ji30) < (l1.length : Int) := of_decide_eq_true (g0_)
        obtain ⟨em4, em5, dd1⟩ := Kd.at_int ig.out (ji30) ce4 ce5
        obtain rfl : em2 = em4 := (by injection em5)
        replace dd1 := cl_ HB dd1
        replace ce4 := eq_true ce4
        replace ce5 := eq_true ce5
        try go_wp2
        replace q6 := Aside0.mk (Kd.R_drew q6.out)
        replace lq := Aside0.mk (Kd.S_drew lq.out)
        replace ia := Aside0.mk (blk_drew ia.out)
        replace jr := Aside0.mk (blk_drew jr.out)
        replace lj := Aside0.mk (blk_drew lj.out)
        replace HB := Aside0.mk (below_drew1 HB.out)
        obtain ⟨js, jc, ad5⟩ := Kd.S_slice lq.out
        (first | subst ad5 | (injection ad5 with f1_ f2_ f3_; have f4_ := f1_.symm; have f5_ := f3_.symm; clear f1_ f2_ f3_; subst f4_; subst f5_))
        have bm1 : 0 ≤ ((rd l1 er) : Int) := of_decide_eq_true (g0_)
        have bm2 : (rd l1 er) < (j5.length : Int) := of_decide_eq_true (g0_)
        obtain ⟨ce6, fw7, em6, em7, bm3, dd2, dd3⟩ := at_L1 (Kd.S_reads' lq.out).2.2 (rd l1 er) bm1 bm2
        cases em7
        obtain ⟨ce262, hce262, hMe262, hcc262⟩ := Kd.S_get lq.out [] (rd l1 er) bm1 (by first | exact bm2 | exact of_decide_eq_true (g0_) | (have e_ := (Kd.S_reads' lq.out).1; omega))
        obtain ⟨ve262_0, rfl, ge262_0⟩ := hMe262
        have hv262_0 := hcc262 0 _ rfl
        rw [Nat.add_zero, show ((Kd.slice 3 (Kd.int .i64))).sz = 1 from rfl, Nat.mul_one] at hv262_0
        replace hv262_0 := Option.some.inj (hv262_0.symm.trans bm3)
        rw [hv262_0] at ge262_0
        have ad6 := Aside0.mk (show Kd.R (Kd.int .i64) 3 _ _ _ _ (rd_L1 j5 (rd l1 er)) from ge262_0)
        clear hv262_0 ge262_0
        have HX262_0 := Aside0.mk bm3
        clear hcc262 hce262
        have em8 := Aside0.mk dd3
        have fw8 := Aside0.mk dd2
        clear dd3 dd2
        replace bm1 := eq_true bm1
        replace bm2 := eq_true bm2
        have ce7 : 0 ≤ ((rd l1 er) : Int) := of_decide_eq_true (g0_)
        have ce8 : (rd l1 er) < (aa.length : Int) := of_decide_eq_true (g0_)
        obtain ⟨dd4, fw9, em9, en0, bm4, dd5, dd6⟩ := at_L1 cq.out (rd l1 er) ce7 ce8
        have en1 := bm4
        cases en0
        replace bm4 := cl_ HB bm4
        have dd7 := Aside0.mk dd6
        have fx0 := Aside0.mk dd5
        clear dd6 dd5
        replace ce7 := eq_true ce7
        replace ce8 := eq_true ce8
        have ce9 : 0 ≤ ((rd l1 (ji30)) : Int) := of_decide_eq_true (g0_)
        have cf0 : (rd l1 (ji30)) < ((rd_L1 aa (rd l1 er)).length : Int) := of_decide_eq_true (g0_)
        obtain ⟨dd8, en2, bm5⟩ := Kd.at_int dd7.out (rd l1 (ji30)) ce9 cf0
        have en3 := bm5
        cases en2
        replace bm5 := cl_ HB bm5
        replace ce9 := eq_true ce9
        replace cf0 := eq_true cf0
        have p39 : 0 ≤ ((rd l1 (ji30)) : Int) := of_decide_eq_true (g0_)
        have q39 : ((rd l1 (ji30)) : Int) < (((rd_L1 j5 (rd l1 er)).length : Int) : Int) := of_decide_eq_true (g0_)
        obtain ⟨dd9, fi, yz, de0, gl39, cl39, HG39⟩ := Kd.R_form ad6.out (by omega)
        (first | cases yz | (injection yz with ea_ en_ ec_; (first | subst ea_ | (injection ea_ with ea_; subst ea_)); subst ec_; clear en_))
        have GB39 := Aside0.mk de0
        have GG39 := Aside0.mk HG39
        clear de0 gl39 HG39
        obtain ⟨en4, hf39_0⟩ := Kd.R_celln 0 ad6.out ((rd l1 (ji30)) : Int) p39 q39
        replace p39 := eq_true p39
        replace q39 := eq_true q39
        have hq42 : ((rd l1 er) : Int) < (j5.length : Int) := (by have h_ : ((rd l1 er) : Int) < ((j5.length : Int) : Int) := of_decide_eq_true (g0_); first | exact h_ | (have e_ := (Kd.S_reads' lq.out).1; omega) | simpa only [List.length_set, List.length_set] using h_)
        obtain ⟨oki42, ce42, hcl42, hM42, hcc42, hok42, hbk42⟩ := Kd.S_borrow lq.out [] ((rd l1 er) : Int) (of_decide_eq_true (g0_)) (by first | exact hq42 | exact of_decide_eq_true (g0_) | (have e_ := (Kd.S_reads' lq.out).1; omega))
        obtain ⟨ve42_0, rfl, ge42_0⟩ := hM42
        have hv42 := hcc42 0 _ rfl
        rw [Nat.add_zero, show ((Kd.slice 3 (Kd.int .i64))).sz = 1 from rfl, Nat.mul_one] at hv42
        replace hv42 := Option.some.inj (hv42.symm.trans HX262_0.out)
        subst hv42
        clear hcc42 hcl42
        replace ge42_0 := (show Kd.R (Kd.int .i64) 3 _ _ _ _ (rd_L1 j5 (rd l1 er)) from ge42_0)
        have HP42 := Kd.R_putg ge42_0 ((rd l1 (ji30)) : Int) (wrap64 ((rd (rd_L1 aa (rd l1 er)) (rd l1 (ji30))) - j4))
        rw [← em0.out] at HP42
        have HS42 := hbk42 HP42.2 (fun k_ e_ => by injection e_ with e_; subst e_; exact ge42_0.1 _ rfl) (x' := ce1) (Kd.M_row HP42.1)
        rw [← em1.out] at HS42
        have HQ42 := Aside0.mk HS42
        clear HP42 HS42 hbk42 hok42
        refine start_ (n := 18) (S := fun w' => w'.cell? ⟨oy, 0, none⟩ = some (ak7) ∧ w'.cell? ⟨oy, 1, none⟩ = some (.slice (some ce6) j5.length jc) ∧ w'.cell? ⟨nf, 0, none⟩ = some (.slice ag ab.length ae) ∧ w'.cell? ⟨nf, 1, none⟩ = some (.slice (some dd4) aa.length af) ∧ w'.cell? (ce6.add ((rd l1 er)).toNat) = some (.slice (some ⟨dd9, 0, none⟩) (rd_L1 j5 (rd l1 er)).length em6) ∧ w'.cell? (dd4.add ((rd l1 er)).toNat) = some (.slice (some dd8) (rd_L1 aa (rd l1 er)).length em9) ∧ w'.cell? (dd8.add ((rd l1 (ji30))).toNat) = some (.int .i64 (rd (rd_L1 aa (rd l1 er)) (rd l1 (ji30))))) (ds := [17]) (tl_ 18 0) (g1_) rfl (g1_) ⟨(blk_cell lj.out 0).trans rfl, (blk_cell lj.out 1).trans rfl, (blk_cell ia.out 0).trans rfl, (blk_cell ia.out 1).trans rfl, bm3, ((cl_ HB en1).trans rfl), ((cl_ HB en3).trans rfl)⟩ (fun hHeld => ?_); refine with_tabW spec_l3Struck.tab12 spec_l3Struck.bits12 (fun HT_ HW_ => ?_)
        generalize wr.drew = w40 at q6 lq ia jr lj HB GG39 ad6 HQ42 em8 dd7 HX262_0 hf39_0 bm3 bm4 bm5 en4 hHeld ⊢
        refine pw_ 0 57 (tl_ 18 1) rfl rfl ?_
        refine pw_ 2 59 (tl_ 18 5) rfl rfl ?_
        refine pw_ 5 62 (tl_ 18 37) rfl rfl ?_
        refine pw_ 6 63 (tl_ 18 101) rfl rfl ?_
        refine pw_ 8 65 (tl_ 18 357) rfl rfl ?_
        refine pw_ 11 68 (tl_ 18 2405) rfl rfl ?_
        refine pw_ 14 71 (tl_ 18 18789) rfl rfl ?_
        refine tk3_ 1 58 (tl_ 18 18791) rfl rfl hHeld ?_
        refine pw_ 3 60 (tl_ 18 18799) rfl rfl ?_
        refine tk3_ 4 61 (tl_ 18 18815) rfl rfl hHeld ?_
        refine tk3_ 7 64 (tl_ 18 18943) rfl rfl hHeld ?_
        refine pw_ 9 66 (tl_ 18 19455) rfl rfl ?_
        refine tk3_ 10 67 (tl_ 18 20479) rfl rfl hHeld ?_
        refine pw_ 12 69 (tl_ 18 24575) rfl rfl ?_
        refine tk3_ 13 70 (tl_ 18 32767) rfl rfl hHeld ?_
        refine pw_ 15 72 (tl_ 18 65535) rfl rfl ?_
        refine pw_ 16 73 (tl_ 18 131071) rfl rfl ?_
        refine last_ (i := 17) (N := none) (tl_ 18 262143) rfl rfl (one_of HT_.out (g1_)) (by decide) (fun K hK => ?_)
        refine skip_ (w1 := ?_) (by rfl) rfl ?_ ?_
        rotate_left
        ·go_simp
         rfl
        refine hK.out _ _ ?_
        clear hK K
        refine done_ (done_of HT_.out (g1_)) ?_
        try go_wp2
        go_roundg k2
        case measure => have := HK1.out; have := HK2.out; omega
        case rel => exact ⟨(wrap64 (er + 1)), (sk), (dc9), (ak7), (.slice (some ce6) j5.length jc), (g3_), H', ⟨g20_⟩, ⟨by (with_reducible repeat (first | apply Kd.R_alloc | apply Kd.R_drewN | apply Kd.R_drew)); exact Kd.R_mono (Kd.R_far (p := ⟨dd9, ((rd l1 (ji30)) : Int).toNat, none⟩) (Kd.R_far1 q6.out rfl ((ad6.out.1 _ rfl).1)) (fun _ hk => hk.2) (.int .i64 (wrap64 ((rd (rd_L1 aa (rd l1 er)) (rd l1 (ji30))) - j4)))) (fun _ hk => trivial)⟩, ⟨uf3_ HQ42⟩, ⟨by (with_reducible repeat (first | refine blk_drewN ?_ _ | refine blk_drew ?_ | refine blk_alloc ?_ _)); refine blk_far ?_ (by have h_ := Kd.R_ne ad6.out ia.out (by decide); intro e_; exact h_ (g5_)) _; exact uf0_ ia⟩, ⟨by (with_reducible repeat (first | refine blk_drewN ?_ _ | refine blk_drew ?_ | refine blk_alloc ?_ _)); refine blk_far ?_ (by have h_ := Kd.R_ne ad6.out jr.out (by decide); intro e_; exact h_ (g5_)) _; exact uf0_ jr⟩, ⟨by (with_reducible repeat (first | refine blk_drewN ?_ _ | refine blk_drew ?_ | refine blk_alloc ?_ _)); refine blk_far ?_ (by have h_ := Kd.R_ne ad6.out lj.out (by decide); intro e_; exact h_ (g5_)) _; exact uf0_ lj⟩, ⟨rq⟩⟩
      ·rw [if_neg ij] at H
       have as2 := decide_eq_false ij
       clear ij
       simp only [Option.some.injEq, Prod.mk.injEq] at H
       obtain ⟨rfl, rfl⟩ := H
       have en5 := dc2.out
       have en6 := bl1.out
       have cw9 := dc3.out
       have cx0 := bl2.out
       obtain ⟨fx1, fx2, fx3, fx4⟩ := blk2_ lj
       obtain ⟨zb, zc, bm6⟩ := Kd.R_slice q6.out
       subst bm6
       have cx1 := dc1.out
       have cx2 := dc0.out
       obtain ⟨bj4, bj5, bj6, bj7⟩ := blk2_ jr
       obtain ⟨ye, yf, ca1⟩ := Kd.S_slice lq.out
       subst ca1
       go_wp2
       refine bodyPost_ret (results_cell_row rfl _ _ n2 25 #[.slice zb sk.length zc, .slice ye j5.length yf] (0, 0) _ rfl (by (with_reducible repeat (first | refine blk_drewN ?_ _ | refine blk_drew ?_ | refine blk_alloc ?_ _)); refine blk_put (cs := #[.slice zb sk.length zc, .slice none 0 0]) ?_ 1 _ rfl; refine blk_put (cs := #[.slice none 0 0, .slice none 0 0]) ?_ 0 _ rfl; exact uf0_ jr) Try.underlying25 rfl (g1_)) rfl ?_
       exact ⟨_, _, g4_, by (with_reducible repeat (first | apply Kd.R_alloc | apply Kd.R_drewN | apply Kd.R_drew)); exact Kd.R_mono (Kd.R_far (p := ⟨n2, 1, none⟩) (Kd.R_far (p := ⟨n2, 0, none⟩) (Kd.R_types q6.out jr.out (by decide)) (fun _ hk => hk.2) (.slice zb sk.length zc)) (fun _ hk => hk.2) (.slice ye j5.length yf)) (fun _ hk => trivial), by (with_reducible repeat (first | apply Kd.S_alloc | apply Kd.S_drewN | apply Kd.S_drew)); exact Kd.S_mono (Kd.S_far (p := ⟨n2, 1, none⟩) (Kd.S_far (p := ⟨n2, 0, none⟩) (Kd.S_types lq.out jr.out (by decide)) (fun _ hk => hk.2) (.slice zb sk.length zc)) (fun _ hk => hk.2) (.slice ye j5.length yf)) (fun _ hk => hk.1), rq⟩
def spec_WithoutCircles.l0 : Nat → Int → List Int → List (List Int) → Option (List Int × (List (List Int)) × Int)
 | 0, _, _, _ => none
 | k + 1, x5, cf1, cf2 => (spec_CirclesOf.f k cf1 cf2).bind fun ib => (if (ib.length : Int) = 0 then (some (cf1, cf2, x5)) else (if 0 < (ib.length : Int) then ((spec_l3Struck.f k cf1 cf2 (rd_L1 ib 0)).bind fun bt301 => (spec_WithoutCircles.l0 k (wrap64 (x5 + 1)) bt301.1 bt301.2)) else (none)))
def spec_WithoutCircles.f (k : Nat) (ab : List Int) (aa : List (List Int)) : Option (List Int × (List (List Int)) × Int) := (spec_BookOk.f k ab aa).bind fun sl => (if sl = true then ((spec_l2Copy.f k ab aa).bind fun bt290 => (spec_WithoutCircles.l0 k 0 bt290.1 bt290.2)) else (some (([] : List Int), ([] : List (List Int)), (-1))))
theorem spec_WithoutCircles.mq {p : Prop} (h : p := by
 repeat' first
 | (with_reducible exact ih0 _ _ _)
 | (with_reducible exact spec_BookOk.mono _ _ _)
 | (with_reducible exact spec_CirclesOf.mono _ _ _)
 | (with_reducible exact spec_l2Copy.mono _ _ _)
 | (with_reducible exact spec_l3Struck.mono _ _ _ _)
 | (with_reducible exact LeO.refl _)
 | (with_reducible exact LeO.none _)
 | (with_reducible refine LeO.ite ?_ ?_)
 | (with_reducible refine LeO.bind ?_ (fun _ => ?_))
 | exact ih0 _ _ _
 | exact spec_BookOk.mono _ _ _
 | exact spec_CirclesOf.mono _ _ _
 | exact spec_l2Copy.mono _ _ _
 | exact spec_l3Struck.mono _ _ _ _
 | exact LeO.none _
 | refine LeO.ite ?_ ?_
 | refine LeO.bind ?_ (fun _ => ?_)) : p := h
theorem spec_WithoutCircles.mono_l : ∀ k, (∀ y0 y1 y2, LeO (spec_WithoutCircles.l0 k y0 y1 y2) (spec_WithoutCircles.l0 (k + 1) y0 y1 y2))
 | 0 => fun _ _ _ r h => by simp [spec_WithoutCircles.l0] at h
 | k + 1 => by
  have ih0 := spec_WithoutCircles.mono_l k
  ·intro y0 y1 y2
   unfold spec_WithoutCircles.l0
   exact spec_WithoutCircles.mq
theorem spec_WithoutCircles.mono : ∀ a0 a1 k, LeO (spec_WithoutCircles.f k a0 a1) (spec_WithoutCircles.f (k + 1) a0 a1) := by
 intro a0 a1 k
 have ih0 := spec_WithoutCircles.mono_l k
 unfold spec_WithoutCircles.f
 exact spec_WithoutCircles.mq
theorem spec_WithoutCircles.calls0_q0 {p : Prop} (h : p := by repeat (first | (with_reducible first | exact HB.out | apply below_alloc | apply pw_below_drewN | apply below_drew1 | refine below_set ?_ de1.out | refine below_set ?_ de2.out | refine below_set ?_ en7.out) | exact HB.out)) : p := h
set_option maxHeartbeats 8000000 in
set_option maxRecDepth 100000 in
theorem spec_WithoutCircles.calls0 (k : Nat) (ag : Option Addr) (ae : Nat) (ab : List Int) (ah : Option Addr) (af : Nat) (aa : List (List Int)) (r1 : List Int) (r2 : List (List Int)) (r3 : Int) (w : World) (dx : Kd.C (Kd.int .i64) w ag ab.length ab) (dy : ab.length ≤ ae) (dz : Kd.C (Kd.slice 3 (Kd.int .i64)) w ah aa.length aa) (d2 : aa.length ≤ af) (h : spec_WithoutCircles.f k ab aa = some (r1, r2, r3)) :
  Calls Try.prog 53 #[.agg #[.slice ag ab.length ae, .slice ah aa.length af]] w fun e w' => ∃ v0_ v1_ : Value, e = .returned (.tuple #[.agg #[v0_, v1_], .int .i64 r3]) ∧ Kd.R (Kd.int .i64) 3 w' w.heap.size (fun k_ => (w.heap.size ≤ k_)) v0_ r1 ∧ Kd.S (Kd.slice 3 (Kd.int .i64)) 22 w' w.heap.size (fun k_ => (w.heap.size ≤ k_) ∧ some k_ ≠ (v0_ : Value).ownBlock) v1_ r2 ∧ Below w.heap.size w w' := by
 have hu25 := Try.underlying25
 have dd := Aside0.mk dx
 have d6 := Aside0.mk dy
 clear dx dy
 have cq := Aside0.mk dz
 have d7 := Aside0.mk d2
 clear dz d2
 have HB := Aside0.mk (Below.refl w.heap.size w)
 have H : ((spec_BookOk.f k ab aa).bind fun sl => (if sl = true then ((spec_l2Copy.f k ab aa).bind fun bt290 => (spec_WithoutCircles.l0 k 0 bt290.1 bt290.2)) else (some (([] : List Int), ([] : List (List Int)), (-1))))) = some (r1, r2, r3) := h
 clear h
 obtain ⟨sl, A2, H⟩ := bind_ H
 by_cases c3 : sl = true
 ·subst c3
  replace H := ifp_ H
  replace H := Option.bind_eq_some_iff.mp H
  obtain ⟨⟨t3, av6⟩, m7, H⟩ := H
  try dsimp only at H
  have A4 := Aside0.mk m7
  clear m7
  have H' := Aside0.mk H
  clear H
  go_enter Try.func53, Try.ntmps53
  go_wp2_with (first | ((with_reducible refine gate_dst (N := 1) rfl ?_); refine bx_ (N := 1) #[.slice ag ab.length ae, .slice ah aa.length af] 25 ?_; intro jt hg w5 hbox hb; have fx := Aside0.mk (hbox); have en8 := Aside0.mk ((g18_ : w.heap.size ≤ jt)); have de1 := Aside0.mk ((g18_ : w.heap.size ≤ jt)); replace HB := Aside0.mk (below_step (spec_WithoutCircles.calls0_q0) hb); clear hb hbox hg) | ((with_reducible refine gate_dst (N := 2) rfl ?_); refine bx_ (N := 2) #[.slice none 0 0, .slice none 0 0] 25 ?_; intro gv hg w6 hbox hb; have gi := Aside0.mk (hbox); have en9 := Aside0.mk ((g18_ : w.heap.size ≤ gv)); have de2 := Aside0.mk ((g18_ : w.heap.size ≤ gv)); replace HB := Aside0.mk (below_step (spec_WithoutCircles.calls0_q0) hb); have bm7 := Aside0.mk ((g85_ : jt ≠ gv)); have bm8 := Aside0.mk ((g86_ : gv ≠ jt)); replace fx := bb_ fx hb; clear hb hbox hg; have cq0 := bm7.out; have cq1 := bm8.out; obtain ⟨xh, xi, xj, xk⟩ := blk2_ fx) | ((with_reducible refine gate_callee (f := 42) rfl ?_); refine goesL_ (some 8) rfl rfl Try.func42 k_ rfl #[.agg #[.slice ag ab.length ae, .slice ah aa.length af]] rfl (g2_) ?_; (with_reducible refine (spec_BookOk.calls k _ _ ab _ _ aa true _ ?side1 ?side2 ?side3 ?side4 A2.out).mono ?_); (case side1 => exact uf1_ dd); (case side2 => exact d6.out); (case side3 => exact uf1_ cq); (case side4 => exact d7.out); rintro e w9 ⟨rfl, hb⟩; refine ⟨_, rfl, ?_⟩; replace fx := bb_ fx hb; replace gi := bb_ gi hb; replace HB := Aside0.mk (below_step (spec_WithoutCircles.calls0_q0) hb); (try clear hb); (try clear hk hi); obtain ⟨tn, tp, tq, tr⟩ := blk2_ fx) | ((with_reducible refine gate_callee (f := 80) rfl ?_); refine goesL_ (some 12) rfl rfl Try.func80 k_ rfl #[.agg #[.slice ag ab.length ae, .slice ah aa.length af]] rfl (g2_) ?_; (with_reducible refine (spec_l2Copy.calls k _ _ ab _ _ aa t3 av6 _ ?side1 ?side2 ?side3 ?side4 A4.out).mono ?_); (case side1 => exact uf1_ dd); (case side2 => exact d6.out); (case side3 => exact uf1_ cq); (case side4 => exact d7.out); rintro e w11 ⟨eo0, fx5, rfl, am, ba, hb⟩; refine ⟨_, rfl, ?_⟩; have bm9 := Aside0.mk (Kd.R_lower (Kd.R_newM (M := fun k_ => (w.heap.size ≤ k_)) am (below_size (spec_WithoutCircles.calls0_q0)) (fun k_ h_ => h_)) (below_size (spec_WithoutCircles.calls0_q0))); have bn0 := Aside0.mk (Kd.S_lower (Kd.S_mono (ok' := fun k_ => (w.heap.size ≤ k_) ∧ some k_ ≠ (eo0 : Value).ownBlock ∧ k_ ≠ jt ∧ k_ ≠ gv) (id (Kd.S_bound ba)) (fun k_ hk_ => ⟨(Nat.le_trans (below_size (spec_WithoutCircles.calls0_q0)) hk_.2.1), hk_.1, (Kd.freshB (g := jt) (o := .cells #[.slice ag ab.length ae, .slice ah aa.length af] 25 (0, 0)) (uf0_ fx) k_ hk_.2.1), (Kd.freshB (g := gv) (o := .cells #[.slice none 0 0, .slice none 0 0] 25 (0, 0)) (uf0_ gi) k_ hk_.2.1)⟩)) (below_size (spec_WithoutCircles.calls0_q0))); replace fx := bb_ fx hb; replace gi := bb_ gi hb; replace HB := Aside0.mk (below_step (spec_WithoutCircles.calls0_q0) hb); (try clear hb); (try clear hk hi); (try clear am); (try clear ba)) | ((with_reducible refine gate_dst (N := 4) rfl ?_); refine bx_ (N := 4) #[.slice none 0 0, .slice none 0 0] 25 ?_; intro g5 hg xy hbox hb; replace bm9 := Aside0.mk (Kd.R_below (uf2_ bm9) hb); replace bn0 := Aside0.mk (Kd.S_below (Kd.S_elderB (uf3_ bn0) g5 (Nat.le_of_eq hg.symm)) hb); have g6 := Aside0.mk (hbox); have fx6 := Aside0.mk ((g18_ : w.heap.size ≤ g5)); have en7 := Aside0.mk ((g18_ : w.heap.size ≤ g5)); replace HB := Aside0.mk (below_step (spec_WithoutCircles.calls0_q0) hb); have vq := Aside0.mk ((g85_ : jt ≠ g5)); have av7 := Aside0.mk ((g86_ : g5 ≠ jt)); replace fx := bb_ fx hb; have vr := Aside0.mk ((by rw [hg]; exact Nat.ne_of_lt (blk_lt (g := gv) (o := .cells #[.slice none 0 0, .slice none 0 0] 25 (0, 0)) (uf0_ gi)) : gv ≠ g5)); have av8 := Aside0.mk ((by rw [hg]; exact Nat.ne_of_gt (blk_lt (g := gv) (o := .cells #[.slice none 0 0, .slice none 0 0] 25 (0, 0)) (uf0_ gi)) : g5 ≠ gv)); replace gi := bb_ gi hb; clear hb hbox hg; obtain ⟨fb, ef, as1⟩ := Kd.R_slice bm9.out; subst as1; have bx6 := av7.out; have bx7 := vq.out; have cu1 := av8.out; have cu2 := vr.out; obtain ⟨ab0, ab1, ab2, ab3⟩ := blk2_ g6; obtain ⟨dk, dh, u7⟩ := Kd.S_slice bn0.out; subst u7))
  go_loopg [5] k (fun kq v5 w' => ∃ (bu : Int) (j6 : List Int) (j7 : List (List Int)) (bn1 : Value) (cf3 : Value), v5 = .int .i64 bu ∧ Aside0 (spec_WithoutCircles.l0 kq bu j6 j7 = some (r1, r2, r3)) ∧ Aside0 (kq ≤ k) ∧ Aside0 (Kd.R (Kd.int .i64) 3 w' w.heap.size (fun k_ => (w.heap.size ≤ k_)) bn1 j6) ∧ Aside0 (Kd.S (Kd.slice 3 (Kd.int .i64)) 22 w' w.heap.size (fun k_ => (w.heap.size ≤ k_) ∧ some k_ ≠ (bn1 : Value).ownBlock ∧ k_ ≠ jt ∧ k_ ≠ gv ∧ k_ ≠ g5) cf3 j7) ∧ Aside0 (w'.heap[jt]? = some (.cells #[(.slice ag ab.length ae), (.slice ah aa.length af)] 25 (0, 0))) ∧ Aside0 (w'.heap[gv]? = some (.cells #[(.slice none 0 0), (.slice none 0 0)] 25 (0, 0))) ∧ Aside0 (w'.heap[g5]? = some (.cells #[bn1, cf3] 25 (0, 0))) ∧ Aside0 (Below w.heap.size w w'))
  case atStart => exact ⟨(0), (t3), (av6), (.slice fb t3.length ef), (.slice dk av6.length dh), (g3_), H', ⟨Nat.le_refl _⟩, ⟨by (with_reducible repeat (first | apply Kd.R_alloc | apply Kd.R_drewN | apply Kd.R_drew)); exact Kd.R_mono (Kd.R_far (p := ⟨g5, 1, none⟩) (Kd.R_far (p := ⟨g5, 0, none⟩) (Kd.R_types bm9.out g6.out (by decide)) (fun _ hk => hk.2) (.slice fb t3.length ef)) (fun _ hk => hk.2) (.slice dk av6.length dh)) (fun _ hk => hk.1.1)⟩, ⟨by (with_reducible repeat (first | apply Kd.S_alloc | apply Kd.S_drewN | apply Kd.S_drew)); exact Kd.S_mono (Kd.S_far (p := ⟨g5, 1, none⟩) (Kd.S_far (p := ⟨g5, 0, none⟩) (Kd.S_mono bn0.out (fun k_ hk => (⟨hk, hk.2⟩ : _ ∧ k_ ≠ g5))) (fun _ hk => hk.2) (.slice fb t3.length ef)) (fun _ hk => hk.2) (.slice dk av6.length dh)) (fun _ hk => ⟨hk.1.1.1, ⟨hk.1.1.2.1, ⟨hk.1.1.2.2.1, ⟨hk.1.1.2.2.2, hk.1.2⟩⟩⟩⟩)⟩, ⟨by (with_reducible repeat (first | refine blk_drewN ?_ _ | refine blk_drew ?_ | refine blk_alloc ?_ _)); refine blk_far ?_ vq.out _; refine blk_far ?_ vq.out _; exact uf0_ fx⟩, ⟨by (with_reducible repeat (first | refine blk_drewN ?_ _ | refine blk_drew ?_ | refine blk_alloc ?_ _)); refine blk_far ?_ vr.out _; refine blk_far ?_ vr.out _; exact uf0_ gi⟩, ⟨by (with_reducible repeat (first | refine blk_drewN ?_ _ | refine blk_drew ?_ | refine blk_alloc ?_ _)); refine blk_put (cs := #[.slice fb t3.length ef, .slice none 0 0]) ?_ 1 _ rfl; refine blk_put (cs := #[.slice none 0 0, .slice none 0 0]) ?_ 0 _ rfl; exact uf0_ g6⟩, ⟨spec_WithoutCircles.calls0_q0⟩⟩
  case round =>
   clear H'
   try clear c1
   try clear p2
   try clear c3
   try clear c4
   try clear c5
   try clear c7
   try clear c8
   try clear e3
   try clear ee
   try clear tn
   try clear tp
   try clear ab0
   try clear ab1
   try clear xh
   try clear xi
   try clear tq
   try clear tr
   try clear ab2
   try clear ab3
   try clear xj
   try clear xk
   obtain ⟨bu, j6, j7, bn1, cf3, rfl, HA, HK1, j8, kp, fx, gi, g6, HB⟩ := hrel
   cases gk with
   | zero => exact absurd HA.out (by simp [spec_WithoutCircles.l0])
   | succ k1 =>
    have H := HA.out
    clear HA
    simp only [spec_WithoutCircles.l0] at H
    obtain ⟨ib, A18, H⟩ := bind_ H
    by_cases dl : (ib.length : Int) = 0
    ·rw [if_pos dl] at H
     have lr : ((ib.length : Int) == 0) = true := beq_iff_eq.mpr dl
     have pv : ((ib.length : Int) != 0) = false := bne_eq_false_iff_eq.mpr dl
     clear dl
     simp only [Option.some.injEq, Prod.mk.injEq] at H
     obtain ⟨rfl, rfl, rfl⟩ := H
     have aq6 := av7.out
     have aq7 := vq.out
     have fx7 := av8.out
     have fx8 := vr.out
     obtain ⟨ut, uu, uv, uw⟩ := blk2_ g6
     obtain ⟨ei, cn, ad7⟩ := Kd.R_slice j8.out
     subst ad7
     obtain ⟨tm, ck, ai5⟩ := Kd.S_slice kp.out
     subst ai5
     go_wp2_with (first | ((with_reducible refine gate_callee (f := 95) rfl ?_); refine goesL_ (some 14) rfl rfl Try.func95 k_ rfl #[.agg #[.slice ei j6.length cn, .slice tm j7.length ck]] rfl (g2_) ?_; (with_reducible refine (spec_CirclesOf.calls k1 _ _ j6 _ _ j7 ib _ ?side1 ?side2 ?side3 ?side4 A18.out).mono ?_); (case side1 => repeat (first | exact (Kd.R_reads' j8.out).2.2 | (with_reducible refine Kd.C_alloc ?_ _) | (with_reducible refine Kd.C_drewN ?_ _) | (with_reducible refine Kd.C_drew ?_))); (case side2 => exact (Kd.R_reads' j8.out).2.1); (case side3 => repeat (first | exact (Kd.S_reads' kp.out).2.2 | (with_reducible refine Kd.C_alloc ?_ _) | (with_reducible refine Kd.C_drewN ?_ _) | (with_reducible refine Kd.C_drew ?_))); (case side4 => exact (Kd.S_reads' kp.out).2.1); rintro e kl ⟨eo1, rfl, am, hb⟩; refine ⟨_, rfl, ?_⟩; have q7 := Aside0.mk (Kd.N_lower (Kd.N_mono (ok' := fun k_ => (w.heap.size ≤ k_) ∧ some k_ ≠ (.slice ei j6.length cn : Value).ownBlock ∧ some k_ ≠ (.slice tm j7.length ck : Value).ownBlock ∧ k_ ≠ jt ∧ k_ ≠ gv ∧ k_ ≠ g5) am (fun k_ hk_ => ⟨(Nat.le_trans (below_size (spec_WithoutCircles.calls0_q0)) hk_), (Kd.fresh' (Kd.R_lt (uf2_ j8)) k_ hk_), (Kd.fresh' (Kd.S_lt (uf3_ kp)) k_ hk_), (Kd.freshB (g := jt) (o := .cells #[.slice ag ab.length ae, .slice ah aa.length af] 25 (0, 0)) (uf0_ fx) k_ hk_), (Kd.freshB (g := gv) (o := .cells #[.slice none 0 0, .slice none 0 0] 25 (0, 0)) (uf0_ gi) k_ hk_), (Kd.freshB (g := g5) (o := .cells #[.slice ei j6.length cn, .slice tm j7.length ck] 25 (0, 0)) (uf0_ g6) k_ hk_)⟩)) (below_size (spec_WithoutCircles.calls0_q0))); replace j8 := Aside0.mk (Kd.R_below (uf2_ j8) hb); replace kp := Aside0.mk (Kd.S_elder' (uf3_ kp) (Kd.N_base (by first | exact am | exact Kd.S_N am)) hb); replace fx := bb_ fx hb; replace gi := bb_ gi hb; replace g6 := bb_ g6 hb; replace HB := Aside0.mk (below_step (spec_WithoutCircles.calls0_q0) hb); (try clear hb); (try clear hk hi); (try clear am); obtain ⟨i6, iq, u4⟩ := Kd.N_slice q7.out; subst u4; obtain ⟨bn2, bn3, bn4, bn5⟩ := blk2_ g6; have bh0 := bm8.out; have bh1 := bm7.out; obtain ⟨cp0, cp1, cp2, cp3⟩ := blk2_ gi))
     refine bodyPost_ret (results_ct rfl _ _ gv 25 #[.slice ei j6.length cn, .slice tm j7.length ck] (0, 0) _ rfl (by (with_reducible repeat (first | refine blk_drewN ?_ _ | refine blk_drew ?_ | refine blk_alloc ?_ _)); refine blk_put (cs := #[.slice ei j6.length cn, .slice none 0 0]) ?_ 1 _ rfl; refine blk_put (cs := #[.slice none 0 0, .slice none 0 0]) ?_ 0 _ rfl; exact uf0_ gi) Try.underlying25 rfl (g1_)) rfl ?_
     exact ⟨_, _, g4_, by (with_reducible repeat (first | apply Kd.R_alloc | apply Kd.R_drewN | apply Kd.R_drew)); exact Kd.R_mono (Kd.R_far (p := ⟨gv, 1, none⟩) (Kd.R_far (p := ⟨gv, 0, none⟩) (Kd.R_types j8.out gi.out (by decide)) (fun _ hk => hk.2) (.slice ei j6.length cn)) (fun _ hk => hk.2) (.slice tm j7.length ck)) (fun _ hk => hk.1), by (with_reducible repeat (first | apply Kd.S_alloc | apply Kd.S_drewN | apply Kd.S_drew)); exact Kd.S_mono (Kd.S_far (p := ⟨gv, 1, none⟩) (Kd.S_far (p := ⟨gv, 0, none⟩) (Kd.S_mono kp.out (fun k_ hk => (⟨hk, hk.1.2.2.2.1⟩ : _ ∧ k_ ≠ gv))) (fun _ hk => hk.2) (.slice ei j6.length cn)) (fun _ hk => hk.2) (.slice tm j7.length ck)) (fun _ hk => ⟨hk.1.1.1, hk.1.1.2.1⟩), spec_WithoutCircles.calls0_q0⟩
    ·rw [if_neg dl] at H
     have lr : ((ib.length : Int) == 0) = false := beq_eq_false_iff_ne.mpr dl
     have pv : ((ib.length : Int) != 0) = true := bne_iff_ne.mpr dl
     have ak6 : ¬ (ib = []) := fun h_ => dl (by rw [h_]; rfl)
     obtain ⟨m8, H⟩ := pos_ H
     have as3 := decide_eq_true m8
     have ca7 : decide (0 < ib.length) = true := decide_eq_true (by omega)
     clear m8
     replace H := Option.bind_eq_some_iff.mp H
     obtain ⟨⟨gj, vs⟩, de3, H⟩ := H
     try dsimp only at H
     have ys := Aside0.mk de3
     clear de3
     have H' := Aside0.mk H
     clear H
     have cf4 := av7.out
     have cf5 := vq.out
     have bf6 := av8.out
     have bf7 := vr.out
     obtain ⟨eb4, eb5, eb6, eb7⟩ := blk2_ g6
     obtain ⟨vt, tt, bj3⟩ := Kd.R_slice j8.out
     subst bj3
     obtain ⟨hz, gz, aq9⟩ := Kd.S_slice kp.out
     subst aq9
     try go_wp2_with (first | ((with_reducible refine gate_callee (f := 95) rfl ?_); refine goesL_ (some 14) rfl rfl Try.func95 k_ rfl #[.agg #[.slice vt j6.length tt, .slice hz j7.length gz]] rfl (g2_) ?_; (with_reducible refine (spec_CirclesOf.calls k1 _ _ j6 _ _ j7 ib _ ?side1 ?side2 ?side3 ?side4 A18.out).mono ?_); (case side1 => repeat (first | exact (Kd.R_reads' j8.out).2.2 | (with_reducible refine Kd.C_alloc ?_ _) | (with_reducible refine Kd.C_drewN ?_ _) | (with_reducible refine Kd.C_drew ?_))); (case side2 => exact (Kd.R_reads' j8.out).2.1); (case side3 => repeat (first | exact (Kd.S_reads' kp.out).2.2 | (with_reducible refine Kd.C_alloc ?_ _) | (with_reducible refine Kd.C_drewN ?_ _) | (with_reducible refine Kd.C_drew ?_))); (case side4 => exact (Kd.S_reads' kp.out).2.1); rintro e ts ⟨eo1, rfl, am, hb⟩; refine ⟨_, rfl, ?_⟩; have q7 := Aside0.mk (Kd.N_lower (Kd.N_mono (ok' := fun k_ => (w.heap.size ≤ k_) ∧ some k_ ≠ (.slice vt j6.length tt : Value).ownBlock ∧ some k_ ≠ (.slice hz j7.length gz : Value).ownBlock ∧ k_ ≠ jt ∧ k_ ≠ gv ∧ k_ ≠ g5) am (fun k_ hk_ => ⟨(Nat.le_trans (below_size (spec_WithoutCircles.calls0_q0)) hk_), (Kd.fresh' (Kd.R_lt (uf2_ j8)) k_ hk_), (Kd.fresh' (Kd.S_lt (uf3_ kp)) k_ hk_), (Kd.freshB (g := jt) (o := .cells #[.slice ag ab.length ae, .slice ah aa.length af] 25 (0, 0)) (uf0_ fx) k_ hk_), (Kd.freshB (g := gv) (o := .cells #[.slice none 0 0, .slice none 0 0] 25 (0, 0)) (uf0_ gi) k_ hk_), (Kd.freshB (g := g5) (o := .cells #[.slice vt j6.length tt, .slice hz j7.length gz] 25 (0, 0)) (uf0_ g6) k_ hk_)⟩)) (below_size (spec_WithoutCircles.calls0_q0))); replace j8 := Aside0.mk (Kd.R_below (uf2_ j8) hb); replace kp := Aside0.mk (Kd.S_elder' (uf3_ kp) (Kd.N_base (by first | exact am | exact Kd.S_N am)) hb); replace fx := bb_ fx hb; replace gi := bb_ gi hb; replace g6 := bb_ g6 hb; replace HB := Aside0.mk (below_step (spec_WithoutCircles.calls0_q0) hb); (try clear hb); (try clear hk hi); (try clear am); obtain ⟨pi, k8, ai8⟩ := Kd.N_slice q7.out; subst ai8))
     replace j8 := Aside0.mk (Kd.R_drew j8.out)
     replace kp := Aside0.mk (Kd.S_drew kp.out)
     replace q7 := Aside0.mk (Kd.N_drew q7.out)
     replace fx := Aside0.mk (blk_drew fx.out)
     replace gi := Aside0.mk (blk_drew gi.out)
     replace g6 := Aside0.mk (blk_drew g6.out)
     replace HB := Aside0.mk (below_drew1 HB.out)
     have bn6 : 0 ≤ (0 : Int) := (by omega)
     have bn7 : 0 < (ib.length : Int) := of_decide_eq_true (g0_)
     obtain ⟨de4, de5, de6, eo2, av9, de7, de8⟩ := at_L1 (Kd.N_reads' q7.out).2.2 0 bn6 bn7
     cases eo2
     obtain ⟨ce300, hce300, hMe300, hcc300⟩ := Kd.N_get q7.out [] 0 bn6 (by first | exact bn7 | exact of_decide_eq_true (g0_) | (have e_ := (Kd.N_reads' q7.out).1; omega))
     obtain ⟨ua300_0, uc300_0, rfl, ul300_0, ge300_0⟩ := Kd.FK_slice_open hMe300
     have hv300_0 := hcc300 0 _ rfl
     rw [Nat.add_zero, show ((Kd.slice 3 (Kd.int .i64))).sz = 1 from rfl, Nat.mul_one] at hv300_0
     replace hv300_0 := Option.some.inj (hv300_0.symm.trans av9)
     injection hv300_0 with hva_ hvn_ hvc_
     rw [hva_] at ge300_0
     rw [hvc_] at ul300_0
     have cf6 := Aside0.mk (show Kd.V (Kd.int .i64) 3 _ w.heap.size _ _ (rd_L1 ib 0) from Kd.V_mk ul300_0 ge300_0)
     clear hva_ hvn_ hvc_ ge300_0 ul300_0
     clear hcc300 hce300
     have qi300 : (0 < ib.length) = True := eq_true (by omega)
     (try rw [show ((0 : Int)).toNat = 0 from rfl] at av9)
     (try rw [Addr.add_zero'] at av9)
     have ak8 := Aside0.mk de8
     have eo3 := Aside0.mk de7
     clear de8 de7
     replace bn6 := eq_true bn6
     replace bn7 := eq_true bn7
     refine start_ (n := 6) (S := fun w' => w'.cell? ⟨g5, 0, none⟩ = some (.slice vt j6.length tt) ∧ w'.cell? ⟨g5, 1, none⟩ = some (.slice hz j7.length gz) ∧ w'.cell? de4 = some (.slice de5 (rd_L1 ib 0).length de6)) (ds := [5]) (tl_ 6 0) (g1_) rfl (g1_) ⟨(blk_cell g6.out 0).trans rfl, (blk_cell g6.out 1).trans rfl, av9⟩ (fun hHeld => ?_)
     generalize ts.drew = w39 at j8 kp q7 fx gi g6 HB cf6 ak8 av9 hHeld ⊢
     refine pure_ (i := 1) (N := some 21) (v := ?_) (a' := ?_) (tl_ 6 2) rfl rfl (g1_) (fun _ _ _ h => h) (Or.inl ⟨by rfl, ?_⟩) ?_ ?_
     rotate_left
     ·intro w'
      go_simp
      with_reducible rfl
     rotate_left
     ·simp only [Act.put, List.setIfInBounds_toArray, List.set_cons_zero, List.set_cons_succ, i64_w, i32_w]
      rfl
     refine pure_ (i := 2) (N := some 22) (v := ?_) (a' := ?_) (tl_ 6 6) rfl rfl (g1_) (fun _ _ _ h => h) (Or.inl ⟨by rfl, ?_⟩) ?_ ?_
     rotate_left
     ·intro w'
      go_simp
      with_reducible rfl
     rotate_left
     ·simp only [Act.put, List.setIfInBounds_toArray, List.set_cons_zero, List.set_cons_succ, i64_w, i32_w]
      rfl
     refine take_ (i := 0) (N := some 20) (v := ?_) (a' := ?_) (tl_ 6 7) rfl rfl (g1_) (fun _ _ _ h => h) (Or.inl ⟨by rfl, ?_⟩) hHeld ?_ ?_
     rotate_left
     ·rintro w' ⟨s0, s1, s2⟩
      go_simp
      with_reducible rfl
     rotate_left
     ·simp only [Act.put, List.setIfInBounds_toArray, List.set_cons_zero, List.set_cons_succ, i64_w, i32_w]
      rfl
     refine take_ (i := 3) (N := some 23) (v := ?_) (a' := ?_) (tl_ 6 15) rfl rfl (g1_) (fun _ _ _ h => h) (Or.inl ⟨by rfl, ?_⟩) hHeld ?_ ?_
     rotate_left
     ·rintro w' ⟨s0, s1, s2⟩
      go_simp
      with_reducible rfl
     rotate_left
     ·simp only [Act.put, List.setIfInBounds_toArray, List.set_cons_zero, List.set_cons_succ, i64_w, i32_w]
      rfl
     refine one_ (i := 4) (N := some 24) (tl_ 6 31) rfl rfl (g1_) (by decide) (fun K hK => ?_)
     refine goes_ Try.func98 (g1_) rfl #[.agg #[.slice vt j6.length tt, .slice hz j7.length gz], .slice de5 (rd_L1 ib 0).length de6] (by rfl) rfl rfl (g2_) ?_
     with_reducible refine (spec_l3Struck.calls k1 _ _ j6 _ _ j7 _ _ (rd_L1 ib 0) gj vs _ ?side1 ?side2 ?side3 ?side4 ?side5 ?side6 ys.out).mono ?_
     (case side1 => repeat (first | exact (Kd.R_reads' j8.out).2.2 | (with_reducible refine Kd.C_alloc ?_ _) | (with_reducible refine Kd.C_drewN ?_ _) | (with_reducible refine Kd.C_drew ?_)))
     (case side2 => exact (Kd.R_reads' j8.out).2.1)
     (case side3 => repeat (first | exact (Kd.S_reads' kp.out).2.2 | (with_reducible refine Kd.C_alloc ?_ _) | (with_reducible refine Kd.C_drewN ?_ _) | (with_reducible refine Kd.C_drew ?_)))
     (case side4 => exact (Kd.S_reads' kp.out).2.1)
     (case side5 => repeat (first | exact (by repeat (first | (with_reducible exact ak8.out) | (with_reducible refine Kd.C_alloc ?_ _) | (with_reducible refine Kd.C_drewN ?_ _) | (with_reducible refine Kd.C_drew ?_) | exact ak8.out)) | (with_reducible refine Kd.C_alloc ?_ _) | (with_reducible refine Kd.C_drewN ?_ _) | (with_reducible refine Kd.C_drew ?_)))
     (case side6 => exact eo3.out)
     rintro e w40 ⟨de9, fx9, rfl, am, ba, hb⟩
     have HS2_ := (hb.cell (World.block_lt_of_cell? _ _ (hHeld.2.2))).trans (hHeld.2.2)
     refine ⟨_, rfl, ?_⟩
     replace cf6 := Aside0.mk (Kd.V_mono (Kd.V_told (Kd.V_told (Kd.V_old (uf5_ cf6) hb) (Kd.R_base am)) (Kd.S_base (by first | exact ba | exact id ba))) (fun _ h_ => h_.1))
     have n3 := Aside0.mk (Kd.R_lower (Kd.R_new' (Kd.R_newM (M := fun k_ => (w.heap.size ≤ k_)) am (below_size (spec_WithoutCircles.calls0_q0)) (fun k_ h_ => h_)) (Kd.R_lt (uf2_ j8))) (below_size (spec_WithoutCircles.calls0_q0)))
     have df0 := Aside0.mk (Kd.S_lower (Kd.S_mono (ok' := fun k_ => (w.heap.size ≤ k_) ∧ some k_ ≠ (de9 : Value).ownBlock ∧ some k_ ≠ (.slice vt j6.length tt : Value).ownBlock ∧ some k_ ≠ (.slice hz j7.length gz : Value).ownBlock ∧ some k_ ≠ (.slice (some de4) ib.length k8 : Value).ownBlock ∧ k_ ≠ jt ∧ k_ ≠ gv ∧ k_ ≠ g5) (id (Kd.S_bound ba)) (fun k_ hk_ => ⟨(Nat.le_trans (below_size (spec_WithoutCircles.calls0_q0)) hk_.2.1), hk_.1, (Kd.fresh' (Kd.R_lt (uf2_ j8)) k_ hk_.2.1), (Kd.fresh' (Kd.S_lt (uf3_ kp)) k_ hk_.2.1), (Kd.fresh' (Kd.N_lt (uf4_ q7)) k_ hk_.2.1), (Kd.freshB (g := jt) (o := .cells #[.slice ag ab.length ae, .slice ah aa.length af] 25 (0, 0)) (uf0_ fx) k_ hk_.2.1), (Kd.freshB (g := gv) (o := .cells #[.slice none 0 0, .slice none 0 0] 25 (0, 0)) (uf0_ gi) k_ hk_.2.1), (Kd.freshB (g := g5) (o := .cells #[.slice vt j6.length tt, .slice hz j7.length gz] 25 (0, 0)) (uf0_ g6) k_ hk_.2.1)⟩)) (below_size (spec_WithoutCircles.calls0_q0)))
     replace j8 := Aside0.mk (Kd.R_elder' (uf2_ j8) (Kd.R_base am) hb)
     replace kp := Aside0.mk (Kd.S_mono (Kd.S_told (Kd.S_told (Kd.S_old (uf3_ kp) hb) (Kd.R_base am)) (Kd.S_base (by first | exact ba | exact id ba))) (fun _ h_ => h_.1))
     replace q7 := Aside0.mk (Kd.N_mono (Kd.N_told (Kd.N_told (Kd.N_old (uf4_ q7) hb) (Kd.R_base am)) (Kd.S_base (by first | exact ba | exact id ba))) (fun _ h_ => h_.1))
     replace fx := bb_ fx hb
     replace gi := bb_ gi hb
     replace g6 := bb_ g6 hb
     replace ak8 := Aside0.mk (Kd.C_below (by repeat (first | (with_reducible exact ak8.out) | (with_reducible refine Kd.C_alloc ?_ _) | (with_reducible refine Kd.C_drewN ?_ _) | (with_reducible refine Kd.C_drew ?_) | exact ak8.out)) hb)
     replace HB := Aside0.mk (below_step (spec_WithoutCircles.calls0_q0) hb)
     (try clear hb)
     (try clear hk hi)
     (try clear am)
     (try clear ba)
     obtain ⟨js, jc, ad5⟩ := Kd.R_slice n3.out
     (first | subst ad5 | (injection ad5 with f1_ f2_ f3_; have f4_ := f1_.symm; have f5_ := f3_.symm; clear f1_ f2_ f3_; subst f4_; subst f5_))
     obtain ⟨cf7, bn8, aw0⟩ := Kd.S_slice df0.out
     (first | subst aw0 | (injection aw0 with f1_ f2_ f3_; have f4_ := f1_.symm; have f5_ := f3_.symm; clear f1_ f2_ f3_; subst f4_; subst f5_))
     refine hK.out _ _ ⟨(blk_cell g6.out 0).trans rfl, (blk_cell g6.out 1).trans rfl, HS2_⟩ (fun hHeld => ?_)
     clear hK K
     refine nm_ ?_
     refine last_ (i := 5) (N := none) (tl_ 6 63) rfl rfl (g1_) (by decide) (fun K hK => ?_)
     have fy0 : w40.cell? ⟨g5, 0, none⟩ = some (.slice vt j6.length tt) := (blk_cell g6.out 0).trans rfl
     have fy1 := blk_frozen g6.out 0
     have fy2 := vq.out
     have fy3 := vr.out
     have fy4 := av7.out
     have fy5 := av8.out
     have fy6 : w40.cell? ⟨g5, 1, none⟩ = some (.slice hz j7.length gz) := (blk_cell g6.out 1).trans rfl
     have fy7 := blk_frozen g6.out 1
     have fy8 := vq.out
     have fy9 := vr.out
     have fz0 := av7.out
     have fz1 := av8.out
     refine skip_ (w1 := ?_) (by rfl) rfl ?_ ?_
     rotate_left
     ·go_simp
      rfl
     refine hK.out _ _ ?_
     clear hK K
     refine done_ (g1_) ?_
     try go_wp2
     go_roundg k1
     case measure => have := HK1.out; omega
     case rel => exact ⟨(wrap64 (bu + 1)), (gj), (vs), (.slice js gj.length jc), (.slice cf7 vs.length bn8), (g3_), H', ⟨g15_⟩, ⟨by (with_reducible repeat (first | apply Kd.R_alloc | apply Kd.R_drewN | apply Kd.R_drew)); exact Kd.R_mono (Kd.R_far (p := ⟨g5, 1, none⟩) (Kd.R_far (p := ⟨g5, 0, none⟩) (Kd.R_types n3.out g6.out (by decide)) (fun _ hk => hk.2) (.slice js gj.length jc)) (fun _ hk => hk.2) (.slice cf7 vs.length bn8)) (fun _ hk => hk.1.1.1)⟩, ⟨by (with_reducible repeat (first | apply Kd.S_alloc | apply Kd.S_drewN | apply Kd.S_drew)); exact Kd.S_mono (Kd.S_far (p := ⟨g5, 1, none⟩) (Kd.S_far (p := ⟨g5, 0, none⟩) (Kd.S_mono df0.out (fun k_ hk => (⟨hk, hk.2.2.2.2.2.2.2⟩ : _ ∧ k_ ≠ g5))) (fun _ hk => hk.2) (.slice js gj.length jc)) (fun _ hk => hk.2) (.slice cf7 vs.length bn8)) (fun _ hk => ⟨hk.1.1, ⟨hk.1.2.1, ⟨hk.1.2.2.2.2.2.1, ⟨hk.1.2.2.2.2.2.2.1, hk.1.2.2.2.2.2.2.2⟩⟩⟩⟩)⟩, ⟨by (with_reducible repeat (first | refine blk_drewN ?_ _ | refine blk_drew ?_ | refine blk_alloc ?_ _)); refine blk_far ?_ vq.out _; refine blk_far ?_ vq.out _; exact uf0_ fx⟩, ⟨by (with_reducible repeat (first | refine blk_drewN ?_ _ | refine blk_drew ?_ | refine blk_alloc ?_ _)); refine blk_far ?_ vr.out _; refine blk_far ?_ vr.out _; exact uf0_ gi⟩, ⟨by (with_reducible repeat (first | refine blk_drewN ?_ _ | refine blk_drew ?_ | refine blk_alloc ?_ _)); refine blk_put (cs := #[.slice js gj.length jc, .slice hz j7.length gz]) ?_ 1 _ rfl; refine blk_put (cs := #[.slice vt j6.length tt, .slice hz j7.length gz]) ?_ 0 _ rfl; exact uf0_ g6⟩, ⟨spec_WithoutCircles.calls0_q0⟩⟩
 ·replace c3 := Bool.eq_false_iff.mpr c3
  subst c3
  replace H := ifn_ H
  simp only [Option.some.injEq, Prod.mk.injEq] at H
  obtain ⟨rfl, rfl, rfl⟩ := H
  go_enter Try.func53, Try.ntmps53
  go_wp2_with (first | ((with_reducible refine gate_dst (N := 1) rfl ?_); refine bx_ (N := 1) #[.slice ag ab.length ae, .slice ah aa.length af] 25 ?_; intro jt hg w45 hbox hb; have fx := Aside0.mk (hbox); have en8 := Aside0.mk ((g18_ : w.heap.size ≤ jt)); have de1 := Aside0.mk ((g18_ : w.heap.size ≤ jt)); replace HB := Aside0.mk (below_step (spec_WithoutCircles.calls0_q0) hb); clear hb hbox hg) | ((with_reducible refine gate_dst (N := 2) rfl ?_); refine bx_ (N := 2) #[.slice none 0 0, .slice none 0 0] 25 ?_; intro gv hg kr hbox hb; have gi := Aside0.mk (hbox); have en9 := Aside0.mk ((g18_ : w.heap.size ≤ gv)); have de2 := Aside0.mk ((g18_ : w.heap.size ≤ gv)); replace HB := Aside0.mk (below_step (spec_WithoutCircles.calls0_q0) hb); have bm7 := Aside0.mk ((g85_ : jt ≠ gv)); have bm8 := Aside0.mk ((g86_ : gv ≠ jt)); replace fx := bb_ fx hb; clear hb hbox hg; have cf8 := bm7.out; have cf9 := bm8.out; obtain ⟨cg0, cg1, cg2, cg3⟩ := blk2_ fx) | ((with_reducible refine gate_callee (f := 42) rfl ?_); refine goesL_ (some 8) rfl rfl Try.func42 k_ rfl #[.agg #[.slice ag ab.length ae, .slice ah aa.length af]] rfl (g2_) ?_; (with_reducible refine (spec_BookOk.calls k _ _ ab _ _ aa false _ ?side1 ?side2 ?side3 ?side4 A2.out).mono ?_); (case side1 => exact uf1_ dd); (case side2 => exact d6.out); (case side3 => exact uf1_ cq); (case side4 => exact d7.out); rintro e w49 ⟨rfl, hb⟩; refine ⟨_, rfl, ?_⟩; replace fx := bb_ fx hb; replace gi := bb_ gi hb; replace HB := Aside0.mk (below_step (spec_WithoutCircles.calls0_q0) hb); (try clear hb); (try clear hk hi); obtain ⟨eo4, eo5, eo6, ep0⟩ := blk2_ gi))
  refine bodyPost_ret (results_ct rfl _ _ gv 25 #[.slice none 0 0, .slice none 0 0] (0, 0) _ rfl (by (with_reducible repeat (first | refine blk_drewN ?_ _ | refine blk_drew ?_ | refine blk_alloc ?_ _)); refine blk_put (cs := #[.slice none 0 0, .slice none 0 0]) ?_ 1 _ rfl; refine blk_put (cs := #[.slice none 0 0, .slice none 0 0]) ?_ 0 _ rfl; exact uf0_ gi) Try.underlying25 rfl (g1_)) rfl ?_
  exact ⟨_, _, g4_, g16_, g34_, spec_WithoutCircles.calls0_q0⟩
theorem spec_WithoutCircles.calls (k : Nat) (ag : Option Addr) (ae : Nat) (ab : List Int) (ah : Option Addr) (af : Nat) (aa : List (List Int)) (r1 : List Int) (r2 : List (List Int)) (r3 : Int) (w : World) (dx : Kd.C (Kd.int .i64) w ag ab.length ab) (dy : ab.length ≤ ae) (dz : Kd.C (Kd.slice 3 (Kd.int .i64)) w ah aa.length aa) (d2 : aa.length ≤ af) (h : spec_WithoutCircles.f k ab aa = some (r1, r2, r3)) :
  Calls Try.prog 53 #[.agg #[.slice ag ab.length ae, .slice ah aa.length af]] w fun e w' => ∃ v0_ v1_ : Value, e = .returned (.tuple #[.agg #[v0_, v1_], .int .i64 r3]) ∧ Kd.R (Kd.int .i64) 3 w' w.heap.size (fun _ => True) v0_ r1 ∧ Kd.S (Kd.slice 3 (Kd.int .i64)) 22 w' w.heap.size (fun k_ => some k_ ≠ (v0_ : Value).ownBlock) v1_ r2 ∧ Below w.heap.size w w' := by
 refine (spec_WithoutCircles.calls0 k ag ae ab ah af aa r1 r2 r3 w dx dy dz d2 h).mono ?_
 rintro e w' ⟨v0_, v1_, he, h0, h1, hb⟩
 exact ⟨v0_, v1_, he, Kd.R_mono h0 (fun _ _ => trivial), Kd.S_mono h1 (fun _ h_ => h_.2), hb⟩
mutual
def spec_l9Same.l0 : Nat → Int → List Int → List (List Int) → List Int → List (List Int) → Option (Bool)
 | 0, _, _, _, _, _ => none
 | k + 1, x5, ad8, ad9, ak9, ae0 => if x5 < (ad8.length : Int) then (if 0 ≤ x5 then (if x5 < (ak9.length : Int) then (if (rd ad8 x5) = (rd ak9 x5) then (spec_l9Same.l1 k x5 0 ad8 ad9 ak9 ae0) else (some false)) else (none)) else (none)) else (some true)
def spec_l9Same.l1 : Nat → Int → Int → List Int → List (List Int) → List Int → List (List Int) → Option (Bool)
 | 0, _, _, _, _, _, _ => none
 | k + 1, x5, x6, ad8, ad9, ak9, ae0 => if x6 < (ad8.length : Int) then (if 0 ≤ x5 then (if x5 < (ad9.length : Int) then (if 0 ≤ x6 then (if x6 < ((rd_L1 ad9 x5).length : Int) then (if x5 < (ae0.length : Int) then (if x6 < ((rd_L1 ae0 x5).length : Int) then (if (rd (rd_L1 ad9 x5) x6) = (rd (rd_L1 ae0 x5) x6) then (spec_l9Same.l1 k x5 (wrap64 (x6 + 1)) ad8 ad9 ak9 ae0) else (some false)) else (none)) else (none)) else (none)) else (none)) else (none)) else (none)) else (spec_l9Same.l0 k (wrap64 (x5 + 1)) ad8 ad9 ak9 ae0)
end
def spec_l9Same.f (k : Nat) (ab : List Int) (aa : List (List Int)) (ce : List Int) (cr : List (List Int)) : Option (Bool) := spec_l9Same.l0 k 0 ab aa ce cr
theorem spec_l9Same.mq {p : Prop} (h : p := by
 repeat' first
 | (with_reducible exact ih0 _ _ _ _ _)
 | (with_reducible exact ih1 _ _ _ _ _ _)
 | (with_reducible exact LeO.refl _)
 | (with_reducible exact LeO.none _)
 | (with_reducible refine LeO.ite ?_ ?_)
 | (with_reducible refine LeO.bind ?_ (fun _ => ?_))
 | exact ih0 _ _ _ _ _
 | exact ih1 _ _ _ _ _ _
 | exact LeO.none _
 | refine LeO.ite ?_ ?_
 | refine LeO.bind ?_ (fun _ => ?_)) : p := h
theorem spec_l9Same.mono_l : ∀ k, (∀ y0 y1 y2 y3 y4, LeO (spec_l9Same.l0 k y0 y1 y2 y3 y4) (spec_l9Same.l0 (k + 1) y0 y1 y2 y3 y4)) ∧ (∀ y0 y1 y2 y3 y4 y5, LeO (spec_l9Same.l1 k y0 y1 y2 y3 y4 y5) (spec_l9Same.l1 (k + 1) y0 y1 y2 y3 y4 y5))
 | 0 => ⟨fun _ _ _ _ _ r h => by simp [spec_l9Same.l0] at h, fun _ _ _ _ _ _ r h => by simp [spec_l9Same.l1] at h⟩
 | k + 1 => by
  obtain ⟨ih0, ih1⟩ := spec_l9Same.mono_l k
  refine ⟨?_, ?_⟩
  ·intro y0 y1 y2 y3 y4
   unfold spec_l9Same.l0
   exact spec_l9Same.mq
  ·intro y0 y1 y2 y3 y4 y5
   unfold spec_l9Same.l1
   exact spec_l9Same.mq
theorem spec_l9Same.mono : ∀ a0 a1 a2 a3 k, LeO (spec_l9Same.f k a0 a1 a2 a3) (spec_l9Same.f (k + 1) a0 a1 a2 a3) := by
 intro a0 a1 a2 a3 k
 obtain ⟨ih0, ih1⟩ := spec_l9Same.mono_l k
 unfold spec_l9Same.f
 exact spec_l9Same.mq
theorem pa {p : Prop} (h : p := by repeat (first | (with_reducible first | exact HB.out | apply below_alloc | apply pw_below_drewN | apply below_drew1 | refine below_set ?_ cg4.out | refine below_set ?_ cg5.out) | exact HB.out)) : p := h
set_option maxHeartbeats 8000000 in
set_option maxRecDepth 100000 in
theorem spec_l9Same.calls (k : Nat) (ag : Option Addr) (ae : Nat) (ab : List Int) (ah : Option Addr) (af : Nat) (aa : List (List Int)) (d8 : Option Addr) (d9 : Nat) (ce : List Int) (ea : Option Addr) (eb : Nat) (cr : List (List Int)) (r : Bool) (w : World) (dx : Kd.C (Kd.int .i64) w ag ab.length ab) (dy : ab.length ≤ ae) (dz : Kd.C (Kd.slice 3 (Kd.int .i64)) w ah aa.length aa) (d2 : aa.length ≤ af) (aw1 : Kd.C (Kd.int .i64) w d8 ce.length ce) (aw2 : ce.length ≤ d9) (aw3 : Kd.C (Kd.slice 3 (Kd.int .i64)) w ea cr.length cr) (aw4 : cr.length ≤ eb) (h : spec_l9Same.f k ab aa ce cr = some r) :
  Calls Try.prog 122 #[.agg #[.slice ag ab.length ae, .slice ah aa.length af], .agg #[.slice d8 ce.length d9, .slice ea cr.length eb]] w fun e w' => e = .returned (.bool r) ∧ Below w.heap.size w w' := by
 have hu25 := Try.underlying25
 have dd := Aside0.mk dx
 have d6 := Aside0.mk dy
 clear dx dy
 have cq := Aside0.mk dz
 have d7 := Aside0.mk d2
 clear dz d2
 have cg6 := Aside0.mk aw1
 have ep1 := Aside0.mk aw2
 clear aw1 aw2
 have cg7 := Aside0.mk aw3
 have ep2 := Aside0.mk aw4
 clear aw3 aw4
 have HB := Aside0.mk (Below.refl w.heap.size w)
 have H : (spec_l9Same.l0 k 0 ab aa ce cr) = some r := h
 clear h
 have H' := Aside0.mk H
 clear H
 go_enter Try.func122, Try.ntmps122
 go_wp2_with (first | ((with_reducible refine gate_dst (N := 2) rfl ?_); refine bx_ (N := 2) #[.slice ag ab.length ae, .slice ah aa.length af] 25 ?_; intro ls hg w3 hbox hb; have j9 := Aside0.mk (hbox); have df1 := Aside0.mk ((g12_ : w.heap.size ≤ ls)); have cg4 := Aside0.mk ((g12_ : w.heap.size ≤ ls)); replace HB := Aside0.mk (below_step (pa) hb); clear hb hbox hg) | ((with_reducible refine gate_dst (N := 3) rfl ?_); refine bx_ (N := 3) #[.slice d8 ce.length d9, .slice ea cr.length eb] 25 ?_; intro ng hg w4 hbox hb; have q8 := Aside0.mk (hbox); have df2 := Aside0.mk ((g12_ : w.heap.size ≤ ng)); have cg5 := Aside0.mk ((g12_ : w.heap.size ≤ ng)); replace HB := Aside0.mk (below_step (pa) hb); have zd := Aside0.mk ((g87_ : ls ≠ ng)); have ze := Aside0.mk ((g88_ : ng ≠ ls)); replace j9 := bb_ j9 hb; clear hb hbox hg))
 repeat (go_quiet (first | ((with_reducible refine gate_dst (N := 2) rfl ?_); refine bx_ (N := 2) #[.slice ag ab.length ae, .slice ah aa.length af] 25 ?_; intro ls hg w3 hbox hb; have j9 := Aside0.mk (hbox); have df1 := Aside0.mk ((g12_ : w.heap.size ≤ ls)); have cg4 := Aside0.mk ((g12_ : w.heap.size ≤ ls)); replace HB := Aside0.mk (below_step (pa) hb); clear hb hbox hg) | ((with_reducible refine gate_dst (N := 3) rfl ?_); refine bx_ (N := 3) #[.slice d8 ce.length d9, .slice ea cr.length eb] 25 ?_; intro ng hg w4 hbox hb; have q8 := Aside0.mk (hbox); have df2 := Aside0.mk ((g12_ : w.heap.size ≤ ng)); have cg5 := Aside0.mk ((g12_ : w.heap.size ≤ ng)); replace HB := Aside0.mk (below_step (pa) hb); have zd := Aside0.mk ((g87_ : ls ≠ ng)); have ze := Aside0.mk ((g88_ : ng ≠ ls)); replace j9 := bb_ j9 hb; clear hb hbox hg)); try go_wp2_with (first | ((with_reducible refine gate_dst (N := 2) rfl ?_); refine bx_ (N := 2) #[.slice ag ab.length ae, .slice ah aa.length af] 25 ?_; intro ls hg w3 hbox hb; have j9 := Aside0.mk (hbox); have df1 := Aside0.mk ((g12_ : w.heap.size ≤ ls)); have cg4 := Aside0.mk ((g12_ : w.heap.size ≤ ls)); replace HB := Aside0.mk (below_step (pa) hb); clear hb hbox hg) | ((with_reducible refine gate_dst (N := 3) rfl ?_); refine bx_ (N := 3) #[.slice d8 ce.length d9, .slice ea cr.length eb] 25 ?_; intro ng hg w4 hbox hb; have q8 := Aside0.mk (hbox); have df2 := Aside0.mk ((g12_ : w.heap.size ≤ ng)); have cg5 := Aside0.mk ((g12_ : w.heap.size ≤ ng)); replace HB := Aside0.mk (below_step (pa) hb); have zd := Aside0.mk ((g87_ : ls ≠ ng)); have ze := Aside0.mk ((g88_ : ng ≠ ls)); replace j9 := bb_ j9 hb; clear hb hbox hg)))
 go_loopg [5] k (fun kq v5 w' => ∃ (bu : Int), v5 = .int .i64 bu ∧ Aside0 (spec_l9Same.l0 kq bu ab aa ce cr = some r) ∧ Aside0 (kq ≤ k) ∧ Aside0 (w'.heap[ls]? = some (.cells #[(.slice ag ab.length ae), (.slice ah aa.length af)] 25 (0, 0))) ∧ Aside0 (w'.heap[ng]? = some (.cells #[(.slice d8 ce.length d9), (.slice ea cr.length eb)] 25 (0, 0))) ∧ Aside0 (Below w.heap.size w w'))
 case atStart => exact ⟨(0), (g3_), H', ⟨Nat.le_refl _⟩, ⟨uf0_ j9⟩, ⟨uf0_ q8⟩, ⟨pa⟩⟩
 case round =>
  clear H'
  try clear c1
  try clear p2
  obtain ⟨bu, rfl, HA, HK1, j9, q8, HB⟩ := hrel
  cases gk with
  | zero => exact absurd HA.out (by simp [spec_l9Same.l0])
  | succ k1 =>
   have H := HA.out
   clear HA
   simp only [spec_l9Same.l0] at H
   by_cases c5 : bu < (ab.length : Int)
   ·rw [if_pos c5] at H
    have gr := decide_eq_true c5
    clear c5
    obtain ⟨c6, H⟩ := pos_ H
    have k9 := decide_eq_true c6
    clear c6
    obtain ⟨c7, H⟩ := pos_ H
    have ap1 := decide_eq_true c7
    clear c7
    by_cases c8 : (rd ab bu) = (rd ce bu)
    ·rw [if_pos c8] at H
     have aw5 : ((rd ab bu) == (rd ce bu)) = true := beq_iff_eq.mpr c8
     have df3 : ((rd ab bu) != (rd ce bu)) = false := bne_eq_false_iff_eq.mpr c8
     clear c8
     have H' := Aside0.mk H
     clear H
     have ep3 := zd.out
     have ep4 := ze.out
     obtain ⟨tn, tp, tq, tr⟩ := blk2_ j9
     have zf : 0 ≤ (bu : Int) := of_decide_eq_true (g0_)
     have zg : bu < (ab.length : Int) := of_decide_eq_true (g0_)
     obtain ⟨df4, cg8, al0⟩ := Kd.at_int dd.out bu zf zg
     cases cg8
     replace al0 := cl_ HB al0
     replace zf := eq_true zf
     replace zg := eq_true zg
     obtain ⟨wx, wy, wz, xa⟩ := blk2_ q8
     have zh : 0 ≤ (bu : Int) := of_decide_eq_true (g0_)
     have zi : bu < (ce.length : Int) := of_decide_eq_true (g0_)
     obtain ⟨df5, cg9, al1⟩ := Kd.at_int cg6.out bu zh zi
     cases cg9
     replace al1 := cl_ HB al1
     replace zh := eq_true zh
     replace zi := eq_true zi
     go_wp2
     repeat (go_quiet (fail); try go_wp2)
     go_loopg [6] k1 (fun kq v6 w' => ∃ (im : Int), v6 = .int .i64 im ∧ Aside0 (spec_l9Same.l1 kq bu im ab aa ce cr = some r) ∧ Aside0 (kq ≤ k1) ∧ Aside0 (w'.heap[ls]? = some (.cells #[(.slice (some df4) ab.length ae), (.slice ah aa.length af)] 25 (0, 0))) ∧ Aside0 (w'.heap[ng]? = some (.cells #[(.slice (some df5) ce.length d9), (.slice ea cr.length eb)] 25 (0, 0))) ∧ Aside0 (Below w.heap.size w w'))
     case atStart => exact ⟨(0), (g3_), H', ⟨Nat.le_refl _⟩, ⟨uf0_ j9⟩, ⟨uf0_ q8⟩, ⟨pa⟩⟩
     case round =>
      clear H'
      try clear c1
      try clear p2
      try clear q2
      try clear hx2
      try clear c5
      try clear gr
      try clear c6
      try clear k9
      try clear c7
      try clear ap1
      try clear c8
      try clear aw5
      try clear df3
      try clear c9
      try clear tn
      try clear tp
      try clear wx
      try clear wy
      try clear tq
      try clear tr
      try clear wz
      try clear xa
      try clear al0
      try clear al1
      try clear p2
      try clear zf
      try clear zh
      try clear zg
      try clear zi
      obtain ⟨im, rfl, HA, HK2, j9, q8, HB⟩ := hrel
      cases gk with
      | zero => exact absurd HA.out (by simp [spec_l9Same.l1])
      | succ k2 =>
       have H := HA.out
       clear HA
       simp only [spec_l9Same.l1] at H
       by_cases hx : im < (ab.length : Int)
       ·rw [if_pos hx] at H
        have ql := decide_eq_true hx
        clear hx
        obtain ⟨lm, H⟩ := pos_ H
        have aj4 := decide_eq_true lm
        clear lm
        obtain ⟨e3, H⟩ := pos_ H
        have oo := decide_eq_true e3
        clear e3
        obtain ⟨ee, H⟩ := pos_ H
        have l9 := decide_eq_true ee
        clear ee
        obtain ⟨f7, H⟩ := pos_ H
        have xb := decide_eq_true f7
        clear f7
        obtain ⟨fa, H⟩ := pos_ H
        have ti := decide_eq_true fa
        clear fa
        obtain ⟨fu, H⟩ := pos_ H
        have ai7 := decide_eq_true fu
        clear fu
        by_cases dl : (rd (rd_L1 aa bu) im) = (rd (rd_L1 cr bu) im)
        ·rw [if_pos dl] at H
         have lr : ((rd (rd_L1 aa bu) im) == (rd (rd_L1 cr bu) im)) = true := beq_iff_eq.mpr dl
         have pv : ((rd (rd_L1 aa bu) im) != (rd (rd_L1 cr bu) im)) = false := bne_eq_false_iff_eq.mpr dl
         clear dl
         have H' := Aside0.mk H
         clear H
         have aq6 := zd.out
         have aq7 := ze.out
         obtain ⟨rx, ry, tk, rz⟩ := blk2_ j9
         have ae1 : 0 ≤ (bu : Int) := of_decide_eq_true (g0_)
         have ae2 : bu < (aa.length : Int) := of_decide_eq_true (g0_)
         obtain ⟨ep5, ep6, ep7, ch0, aw6, aw7, aw8⟩ := at_L1 cq.out bu ae1 ae2
         cases ch0
         replace aw6 := cl_ HB aw6
         have ch1 := Aside0.mk aw8
         have ep8 := Aside0.mk aw7
         clear aw8 aw7
         replace ae1 := eq_true ae1
         replace ae2 := eq_true ae2
         have ae3 : 0 ≤ (im : Int) := of_decide_eq_true (g0_)
         have ae4 : im < ((rd_L1 aa bu).length : Int) := of_decide_eq_true (g0_)
         obtain ⟨ep9, ch2, aw9⟩ := Kd.at_int ch1.out im ae3 ae4
         cases ch2
         replace aw9 := cl_ HB aw9
         replace ae3 := eq_true ae3
         replace ae4 := eq_true ae4
         obtain ⟨ut, uu, uv, uw⟩ := blk2_ q8
         have ae5 : 0 ≤ (bu : Int) := of_decide_eq_true (g0_)
         have ae6 : bu < (cr.length : Int) := of_decide_eq_true (g0_)
         obtain ⟨eq0, eq1, eq2, ch3, ax0, ax1, ax2⟩ := at_L1 cg7.out bu ae5 ae6
         cases ch3
         replace ax0 := cl_ HB ax0
         have ch4 := Aside0.mk ax2
         have eq3 := Aside0.mk ax1
         clear ax2 ax1
         replace ae5 := eq_true ae5
         replace ae6 := eq_true ae6
         have ae7 : 0 ≤ (im : Int) := of_decide_eq_true (g0_)
         have ae8 : im < ((rd_L1 cr bu).length : Int) := of_decide_eq_true (g0_)
         obtain ⟨eq4, ch5, ax3⟩ := Kd.at_int ch4.out im ae7 ae8
         cases ch5
         replace ax3 := cl_ HB ax3
         replace ae7 := eq_true ae7
         replace ae8 := eq_true ae8
         go_wp2
         repeat (go_quiet (fail); try go_wp2)
         go_roundg k2
         case measure => have := HK1.out; have := HK2.out; omega
         case rel => exact ⟨(wrap64 (im + 1)), (g3_), H', ⟨g20_⟩, ⟨uf0_ j9⟩, ⟨uf0_ q8⟩, ⟨pa⟩⟩
        ·rw [if_neg dl] at H
         have lr : ((rd (rd_L1 aa bu) im) == (rd (rd_L1 cr bu) im)) = false := beq_eq_false_iff_ne.mpr dl
         have pv : ((rd (rd_L1 aa bu) im) != (rd (rd_L1 cr bu) im)) = true := bne_iff_ne.mpr dl
         obtain rfl := Option.some.inj H
         have fz2 := zd.out
         have fz3 := ze.out
         obtain ⟨eq5, eq6, eq7, eq8⟩ := blk2_ j9
         have ae1 : 0 ≤ (bu : Int) := of_decide_eq_true (g0_)
         have ae2 : bu < (aa.length : Int) := of_decide_eq_true (g0_)
         obtain ⟨ep5, ep6, ep7, ch0, aw6, aw7, aw8⟩ := at_L1 cq.out bu ae1 ae2
         cases ch0
         replace aw6 := cl_ HB aw6
         have ch1 := Aside0.mk aw8
         have ep8 := Aside0.mk aw7
         clear aw8 aw7
         replace ae1 := eq_true ae1
         replace ae2 := eq_true ae2
         have ae3 : 0 ≤ (im : Int) := of_decide_eq_true (g0_)
         have ae4 : im < ((rd_L1 aa bu).length : Int) := of_decide_eq_true (g0_)
         obtain ⟨ep9, ch2, aw9⟩ := Kd.at_int ch1.out im ae3 ae4
         cases ch2
         replace aw9 := cl_ HB aw9
         replace ae3 := eq_true ae3
         replace ae4 := eq_true ae4
         obtain ⟨fz4, fz5, fz6, fz7⟩ := blk2_ q8
         have ae5 : 0 ≤ (bu : Int) := of_decide_eq_true (g0_)
         have ae6 : bu < (cr.length : Int) := of_decide_eq_true (g0_)
         obtain ⟨eq0, eq1, eq2, ch3, ax0, ax1, ax2⟩ := at_L1 cg7.out bu ae5 ae6
         cases ch3
         replace ax0 := cl_ HB ax0
         have ch4 := Aside0.mk ax2
         have eq3 := Aside0.mk ax1
         clear ax2 ax1
         replace ae5 := eq_true ae5
         replace ae6 := eq_true ae6
         have ae7 : 0 ≤ (im : Int) := of_decide_eq_true (g0_)
         have ae8 : im < ((rd_L1 cr bu).length : Int) := of_decide_eq_true (g0_)
         obtain ⟨eq4, ch5, ax3⟩ := Kd.at_int ch4.out im ae7 ae8
         cases ch5
         replace ax3 := cl_ HB ax3
         replace ae7 := eq_true ae7
         replace ae8 := eq_true ae8
         go_wp2
         repeat (go_quiet (fail); try go_wp2)
         go_ret
         exact ⟨g4_, pa⟩
       ·rw [if_neg hx] at H
        have ql := decide_eq_false hx
        clear hx
        have H' := Aside0.mk H
        clear H
        have df6 := zd.out
        have df7 := ze.out
        obtain ⟨bn2, bn3, bn4, bn5⟩ := blk2_ j9
        go_wp2
        repeat (go_quiet (fail); try go_wp2)
        go_roundg k2
        case measure => have := HK1.out; have := HK2.out; omega
        case rel => exact ⟨(wrap64 (bu + 1)), (g3_), H', ⟨g20_⟩, ⟨uf0_ j9⟩, ⟨uf0_ q8⟩, ⟨pa⟩⟩
    ·rw [if_neg c8] at H
     have aw5 : ((rd ab bu) == (rd ce bu)) = false := beq_eq_false_iff_ne.mpr c8
     have df3 : ((rd ab bu) != (rd ce bu)) = true := bne_iff_ne.mpr c8
     obtain rfl := Option.some.inj H
     have bh0 := zd.out
     have bh1 := ze.out
     obtain ⟨cp0, cp1, cp2, cp3⟩ := blk2_ j9
     have zf : 0 ≤ (bu : Int) := of_decide_eq_true (g0_)
     have zg : bu < (ab.length : Int) := of_decide_eq_true (g0_)
     obtain ⟨df4, cg8, al0⟩ := Kd.at_int dd.out bu zf zg
     cases cg8
     replace al0 := cl_ HB al0
     replace zf := eq_true zf
     replace zg := eq_true zg
     obtain ⟨ag9, ah0, ah1, ah2⟩ := blk2_ q8
     have zh : 0 ≤ (bu : Int) := of_decide_eq_true (g0_)
     have zi : bu < (ce.length : Int) := of_decide_eq_true (g0_)
     obtain ⟨df5, cg9, al1⟩ := Kd.at_int cg6.out bu zh zi
     cases cg9
     replace al1 := cl_ HB al1
     replace zh := eq_true zh
     replace zi := eq_true zi
     go_wp2
     repeat (go_quiet (fail); try go_wp2)
     go_ret
     exact ⟨g4_, pa⟩
   ·rw [if_neg c5] at H
    have gr := decide_eq_false c5
    clear c5
    obtain rfl := Option.some.inj H
    have cr2 := zd.out
    have cr3 := ze.out
    obtain ⟨cr4, cr5, cr6, cr7⟩ := blk2_ j9
    go_wp2
    repeat (go_quiet (fail); try go_wp2)
    go_ret
    exact ⟨g4_, pa⟩
end Go.Proofs.Ytfooakkhkehpiaa.PU
