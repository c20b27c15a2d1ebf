/- FnLeadsTo: for every input the law holds. No condition. -/
import Derived.Test.YtigpmfoagkhaeaaZFnLeadsTo1
import Derived.Test.YtigpmfoagkhaeaaZFnLeadsTo2
namespace Go.Proofs.Ytigpmfoagkhaeaa.PU
open Go.RowKit Go.Proofs.YtigpmfoagkhaeaaW.PrintWords Go.Proofs.YtigpmfoagkhaeaaW.PrintLast Go.Proofs.YtigpmfoagkhaeaaW.PrintMore Go.Proofs.Ytigpmfoagkhaeaa.Qd
attribute [local go_sem] max2_int min2_int max_two min_two max_three min_three max_four min_four
set_option linter.unusedVariables false
set_option linter.unusedSimpArgs false
mutual
def spec_l20Book.l0 : Nat → Int → Int → Int → Int → List Int → Int → List Int → List (List Int) → Option (List Int × (List (List Int)) × Int)
 | 0, _, _, _, _, _, _, _, _ => none
 | k + 1, x1, x5, x7, x8, x1000, x1001, x114000, x114001 => if x8 < x5 then ((spec_l20Rd_pick.f k x1000 x1001 4).bind fun bt116 => ((spec_l20Rd_pick.f k x1000 bt116.2 21).bind fun bt118 => ((some (([0, bt116.1, bt118.1] : List Int) : List Int)).bind fun y120 => (if 0 ≤ x7 then (if x7 < (y120.length : Int) then (if x114000.length < 17592186044416 then (spec_l20Book.l1 k x1 x5 x7 x8 (([] : List Int)) 0 x1000 bt118.2 (x114000 ++ [rd y120 x7]) x114001) else (none)) else (none)) else (none))))) else ((spec_l20Rd_odd.f k x1000 x1001 x1).bind fun bt146 => (if bt146.1 = true then ((spec_l20Rd_pick.f k x1000 bt146.2 4).bind fun bt148 => (if bt148.1 = 0 then (some (([] : List Int), ([] : List (List Int)), bt148.2)) else (if bt148.1 = 1 then (if 0 < (x114000.length : Int) then (some ((x114000.set (0 : Int).toNat (-1)), x114001, bt148.2)) else (none)) else (if bt148.1 = 2 then (if 0 < (x114001.length : Int) then (if 0 < ((rd_L2 x114001 0).length : Int) then (some (x114000, (x114001.set (0 : Int).toNat ((rd_L2 x114001 0).set (0 : Int).toNat 1)), bt148.2)) else (none)) else (none)) else (if 0 ≤ (wrap64 (x5 - 1)) then (if (wrap64 (x5 - 1)) < (x114001.length : Int) then (if 1 ≤ ((rd_L2 x114001 (wrap64 (x5 - 1))).length : Int) then (some (x114000, (x114001.set ((wrap64 (x5 - 1)) : Int).toNat ((rd_L2 x114001 (wrap64 (x5 - 1))).drop 1)), bt148.2)) else (none)) else (none)) else (none)))))) else (some (x114000, x114001, bt146.2))))
def spec_l20Book.l1 : Nat → Int → Int → Int → Int → List Int → Int → List Int → Int → List Int → List (List Int) → Option (List Int × (List (List Int)) × Int)
 | 0, _, _, _, _, _, _, _, _, _, _ => none
 | k + 1, x1, x5, x7, x8, x9, x10, x1000, x1001, x114000, x114001 => if x10 < x5 then (if x8 = x10 then (if x9.length < 17592186044416 then (spec_l20Book.l1 k x1 x5 x7 x8 (x9 ++ [0]) (wrap64 (x10 + 1)) x1000 x1001 x114000 x114001) else (none)) else ((spec_l20Rd_pick.f k x1000 x1001 3).bind fun bt136 => (if bt136.1 > 0 then ((spec_l20Rd_pick.f k x1000 bt136.2 10).bind fun bt138 => (if x9.length < 17592186044416 then (spec_l20Book.l1 k x1 x5 x7 x8 (x9 ++ [bt138.1]) (wrap64 (x10 + 1)) x1000 bt138.2 x114000 x114001) else (none))) else (if x9.length < 17592186044416 then (spec_l20Book.l1 k x1 x5 x7 x8 (x9 ++ [0]) (wrap64 (x10 + 1)) x1000 bt136.2 x114000 x114001) else (none))))) else (if x114001.length < 5864062014805 then (spec_l20Book.l0 k x1 x5 x7 (wrap64 (x8 + 1)) x1000 x1001 x114000 (x114001 ++ [x9])) else (none))
end
def spec_l20Book.f (k : Nat) (s0_0 : List Int) (s0_1 : Int) (a1 : Int) : Option (List Int × (List (List Int)) × Int) := (some (([1, 2, 3, 3, 4, 4] : List Int) : List Int)).bind fun y107 => ((spec_l20Rd_pick.f k s0_0 s0_1 6).bind fun bt110 => (if 0 ≤ bt110.1 then (if bt110.1 < (y107.length : Int) then ((spec_l20Rd_pick.f k s0_0 bt110.2 3).bind fun bt114 => (spec_l20Book.l0 k a1 (rd y107 bt110.1) bt114.1 0 s0_0 bt114.2 ([] : List Int) ([] : List (List Int)))) else (none)) else (none)))
theorem spec_l20Book.mq {p : Prop} (h : p := by
 repeat' first
 | (with_reducible exact ih0 _ _ _ _ _ _ _ _)
 | (with_reducible exact ih1 _ _ _ _ _ _ _ _ _ _)
 | (with_reducible exact spec_l20Rd_odd.mono _ _ _ _)
 | (with_reducible exact spec_l20Rd_pick.mono _ _ _ _)
 | (with_reducible exact LeO.refl _)
 | (with_reducible exact LeO.none _)
 | (with_reducible refine LeO.ite ?_ ?_)
 | (with_reducible refine LeO.bind ?_ (fun _ => ?_))
 | exact ih0 _ _ _ _ _ _ _ _
 | exact ih1 _ _ _ _ _ _ _ _ _ _
 | exact spec_l20Rd_odd.mono _ _ _ _
 | exact spec_l20Rd_pick.mono _ _ _ _
 | exact LeO.none _
 | refine LeO.ite ?_ ?_
 | refine LeO.bind ?_ (fun _ => ?_)) : p := h
theorem spec_l20Book.mono_l : ∀ k, (∀ y0 y1 y2 y3 y4 y5 y6 y7, LeO (spec_l20Book.l0 k y0 y1 y2 y3 y4 y5 y6 y7) (spec_l20Book.l0 (k + 1) y0 y1 y2 y3 y4 y5 y6 y7)) ∧ (∀ y0 y1 y2 y3 y4 y5 y6 y7 y8 y9, LeO (spec_l20Book.l1 k y0 y1 y2 y3 y4 y5 y6 y7 y8 y9) (spec_l20Book.l1 (k + 1) y0 y1 y2 y3 y4 y5 y6 y7 y8 y9))
 | 0 => ⟨fun _ _ _ _ _ _ _ _ r h => by simp [spec_l20Book.l0] at h, fun _ _ _ _ _ _ _ _ _ _ r h => by simp [spec_l20Book.l1] at h⟩
 | k + 1 => by
  obtain ⟨ih0, ih1⟩ := spec_l20Book.mono_l k
  refine ⟨?_, ?_⟩
  ·intro y0 y1 y2 y3 y4 y5 y6 y7
   unfold spec_l20Book.l0
   exact spec_l20Book.mq
  ·intro y0 y1 y2 y3 y4 y5 y6 y7 y8 y9
   unfold spec_l20Book.l1
   exact spec_l20Book.mq
theorem spec_l20Book.mono : ∀ a0 a1 a2 k, LeO (spec_l20Book.f k a0 a1 a2) (spec_l20Book.f (k + 1) a0 a1 a2) := by
 intro a0 a1 a2 k
 obtain ⟨ih0, ih1⟩ := spec_l20Book.mono_l k
 unfold spec_l20Book.f
 exact spec_l20Book.mq
def spec_l20Book.T7 : Bool × List (List Nat × List Nat) := (true, [([], []), ([0], [0]), ([], []), ([2], [2]), ([], []), ([4, 3], [4]), ([3, 5], [3, 5]), ([], []), ([6, 7], [6, 7]), ([8], [8]), ([9], [9]), ([1, 10, 5], [1, 10]), ([0, 1, 2, 3, 4, 5, 6, 7, 8, 9, 10, 11], []), ([12, 11, 11, 0, 1, 2, 3, 4, 5, 6, 7, 8, 9, 10, 11], [11, 12])])
def spec_l20Book.B7 : List Nat := [0, 1, 0, 4, 0, 28, 60, 0, 252, 508, 1020, 2047, 4095, 8191]
theorem spec_l20Book.tab7 : rtab .any (opsOf Try.f52 7) = spec_l20Book.T7 := by kernel_rfl
theorem spec_l20Book.bits7 : waitsOk spec_l20Book.T7.2 spec_l20Book.B7 = true := by kernel_rfl
def spec_l20Book.T19 : Bool × List (List Nat × List Nat) := (true, [([], []), ([0], [0]), ([], []), ([2], [2]), ([], []), ([4], [4]), ([], []), ([6], [6]), ([5, 7], [5, 7]), ([8], [8]), ([9], [9]), ([1, 3, 0, 1, 2, 3, 4, 5, 6, 7, 8, 9, 10], [1, 3]), ([11, 10, 0, 1, 2, 3, 4, 5, 6, 7, 8, 9, 10], [10, 11])])
def spec_l20Book.B19 : List Nat := [0, 1, 0, 4, 0, 16, 0, 64, 240, 496, 1008, 2047, 4095]
theorem spec_l20Book.tab19 : rtab .any (opsOf Try.f52 19) = spec_l20Book.T19 := by kernel_rfl
theorem spec_l20Book.bits19 : waitsOk spec_l20Book.T19.2 spec_l20Book.B19 = true := by kernel_rfl
theorem qz43_ {p : Prop} (h : p := by repeat (first | (with_reducible first | exact HI0.out | apply IsS79.alloc | apply IsS79.drewN | apply IsS79.drew | apply IsS79.set_1 | refine IsS79.far ?_ NB0_106.out _ | refine IsS79.far ?_ NB0_113.out _ | refine IsS79.far ?_ HN0_go84.out _) | exact HI0.out)) : p := h
theorem qz14_ {p : Prop} (h : p := by repeat (first | (with_reducible first | exact HK.out | apply KeepBut.set_ | apply keep_drewN | apply keep_drew | apply keep_alloc | refine keep_far ?_ GW106.out _ | refine keep_far ?_ GW113.out _ | refine keep_far ?_ GB84.out _) | exact HK.out)) : p := h
theorem qz44_ {p : Prop} (h : p := by repeat (first | (with_reducible first | exact HB.out | apply below_alloc | apply pw_below_drewN | apply below_drew1 | refine below_set ?_ (IsS79.ge HI0.out) | refine below_set ?_ GE106.out | refine below_set ?_ GE113.out | refine below_set ?_ (Nat.le_trans HL.out GB84.out)) | exact HB.out)) : p := h
set_option maxHeartbeats 8000000 in
set_option maxRecDepth 100000 in
theorem spec_l20Book.calls (k : Nat) (g : Nat) (s0_0 : List Int) (s0_1 : Int) (a1 : Int) (r1 : List Int) (r2 : List (List Int)) (r3 : Int) (w0 w : World) (hI : IsS79 w0 w g s0_0 s0_1) (hB : Below w0.heap.size w0 w) (h : spec_l20Book.f k s0_0 s0_1 a1 = some (r1, r2, r3)) :
  Calls Try.prog 52 #[.pointer (some ⟨g, 0, none⟩), .int .i64 a1] w fun e w' => ∃ v0_ v1_ : Value, e = .returned (.agg #[v0_, v1_]) ∧ Kd.R (Kd.int .i64) 3 w' w.heap.size (fun k_ => (w.heap.size ≤ k_)) v0_ r1 ∧ Kd.V (Kd.slice 3 (Kd.int .i64)) 23 w' w.heap.size (fun k_ => (w.heap.size ≤ k_) ∧ some k_ ≠ (v0_ : Value).ownBlock) v1_ r2 ∧ IsS79 w0 w' g s0_0 r3 ∧ Below w0.heap.size w0 w' ∧ KeepBut w w' g none := by
 have hu26 := Try.underlying26
 have HI0 := Aside0.mk hI
 have HK := Aside0.mk (KeepBut.refl w g none)
 have HL := Aside0.mk hB.size
 clear hI
 have HW0 := Aside0.mk hB.size
 have HB := Aside0.mk hB
 clear hB
 have H : ((some (([1, 2, 3, 3, 4, 4] : List Int) : List Int)).bind fun y107 => ((spec_l20Rd_pick.f k s0_0 s0_1 6).bind fun bt110 => (if 0 ≤ bt110.1 then (if bt110.1 < (y107.length : Int) then ((spec_l20Rd_pick.f k s0_0 bt110.2 3).bind fun bt114 => (spec_l20Book.l0 k a1 (rd y107 bt110.1) bt114.1 0 s0_0 bt114.2 ([] : List Int) ([] : List (List Int)))) else (none)) else (none)))) = some (r1, r2, r3) := h
 clear h
 obtain ⟨y107, hy107⟩ : ∃ y_ : List Int, y_ = (([1, 2, 3, 3, 4, 4] : List Int)) := ⟨_, rfl⟩
 replace H : ((spec_l20Rd_pick.f k s0_0 s0_1 6).bind fun bt110 => (if 0 ≤ bt110.1 then (if bt110.1 < (y107.length : Int) then ((spec_l20Rd_pick.f k s0_0 bt110.2 3).bind fun bt114 => (spec_l20Book.l0 k a1 (rd y107 bt110.1) bt114.1 0 s0_0 bt114.2 ([] : List Int) ([] : List (List Int)))) else (none)) else (none))) = some (r1, r2, r3) := by first | (rw [hy107]; with_reducible exact H) | (have H2_ := (Option.bind_some _ _).symm.trans H; rw [hy107]; with_reducible exact H2_) | (have H2_ := (Option.bind_some _ _).symm.trans H; with_reducible exact H2_) | with_reducible exact H | (rw [hy107]; exact H) | exact H
 have Ny107 := Aside0.mk hy107
 clear hy107
 replace H := Option.bind_eq_some_iff.mp H
 obtain ⟨⟨t110, t111⟩, A30, H⟩ := H
 replace H : (if 0 ≤ t110 then (if t110 < (y107.length : Int) then ((spec_l20Rd_pick.f k s0_0 t111 3).bind fun bt114 => (spec_l20Book.l0 k a1 (rd y107 t110) bt114.1 0 s0_0 bt114.2 ([] : List Int) ([] : List (List Int)))) else (none)) else (none)) = some (r1, r2, r3) := H
 have A3 := Aside0.mk A30
 clear A30
 obtain ⟨c4, H⟩ := pos_ H
 have c4b0 := decide_eq_true c4
 clear c4
 obtain ⟨c5, H⟩ := pos_ H
 have c5b0 := decide_eq_true c5
 clear c5
 replace H := Option.bind_eq_some_iff.mp H
 obtain ⟨⟨t114, t115⟩, A60, H⟩ := H
 replace H : (spec_l20Book.l0 k a1 (rd y107 t110) t114 0 s0_0 t115 ([] : List Int) ([] : List (List Int))) = some (r1, r2, r3) := H
 have A6 := Aside0.mk A60
 clear A60
 have H' := Aside0.mk H
 clear H
 go_enter Try.func52, Try.ntmps52
 go_wp2_with (first | ((with_reducible refine gate_dst (N := 4) rfl ?_); refine bx_ (N := 4) #[.slice none 0 0, .slice none 0 0] 26 ?_; intro gb106 hg w7 hbox hb; replace HB := Aside0.mk (below_step (qz44_) hb); have BK106 := Aside0.mk (hbox); have GW106 := Aside0.mk ((g84_ : w.heap.size ≤ gb106)); have GE106 := Aside0.mk ((Nat.le_trans HW0.out (g84_ : w.heap.size ≤ gb106) : w0.heap.size ≤ gb106)); replace HK := Aside0.mk (KeepBut.trans (qz14_) (KeepBut.of_below hb g none) (.inl rfl)); have NB0_106 := Aside0.mk ((by rw [hg]; exact Nat.ne_of_lt (IsS79.lt (show IsS79 w0 _ g s0_0 s0_1 from qz43_)) : g ≠ gb106)); have NB106_0 := Aside0.mk ((by rw [hg]; exact Nat.ne_of_gt (IsS79.lt (show IsS79 w0 _ g s0_0 s0_1 from qz43_)) : gb106 ≠ g)); replace HI0 := Aside0.mk (IsS79.below (qz43_) hb); clear hb hbox hg) | ((with_reducible refine gate_dst (N := 12) rfl ?_); refine Kd.R_lit (Kd.int .i64) _ 3 ?hg (N := 12) ?hd (xs := ([1, 2, 3, 3, 4, 4] : List Int)) (inner := [.int .i64 1, .int .i64 2, .int .i64 3, .int .i64 3, .int .i64 4, .int .i64 4]) (ok := fun _ => True) (okp := fun _ => True) ?hr ?hp (fun _ hk => hk) trivial (Below.refl _ _) (Nat.le_refl _) (by simp) ?_; (case hd => rfl); (case hg => rfl); (case hr => first | (go_simp; done) | (go_simp; rfl)); (case hp => exact (Reps.one (show Kd.M (Kd.int .i64) _ _ _ 1 [.int .i64 1] from rfl) (Reps.one (show Kd.M (Kd.int .i64) _ _ _ 2 [.int .i64 2] from rfl) (Reps.one (show Kd.M (Kd.int .i64) _ _ _ 3 [.int .i64 3] from rfl) (Reps.one (show Kd.M (Kd.int .i64) _ _ _ 3 [.int .i64 3] from rfl) (Reps.one (show Kd.M (Kd.int .i64) _ _ _ 4 [.int .i64 4] from rfl) (Reps.one (show Kd.M (Kd.int .i64) _ _ _ 4 [.int .i64 4] from rfl) (Reps.none _ _)))))))); intro v108 w8 ho9 hb hg_ hnew_; clear hg_ hnew_; (first | rw [← Ny107.out] at ho9 | (simp only [Int.reduceToNat] at ho9; rw [← Ny107.out] at ho9)); have HO109 := Aside0.mk (Kd.R_lower (Kd.R_newM (M := fun k_ => (w.heap.size ≤ k_)) ho9 (keep_size (w := w) (g := g) (row := none) (qz14_)) (fun k_ h_ => h_)) (keep_size (w := w) (g := g) (row := none) (qz14_))); replace BK106 := bb_ BK106 hb; replace HK := Aside0.mk (KeepBut.trans (qz14_) (KeepBut.of_below hb g none) (.inl rfl)); replace HB := Aside0.mk (below_step (qz44_) hb); replace HI0 := Aside0.mk (IsS79.below (qz43_) hb); clear hb ho9) | ((with_reducible refine gate_callee (f := 87) rfl ?_); refine goesL_ (some 14) rfl rfl Try.func87 k_ rfl #[.pointer (some ⟨g, 0, none⟩), .int .i64 6] rfl (g2_) ?_; (with_reducible refine (spec_l20Rd_pick.calls k g s0_0 s0_1 6 t110 t111 w0 _ ?side1 ?side2 A3.out).mono ?_); (case side1 => exact qz43_); (case side2 => exact qz44_); rintro e w10 ⟨rfl, hi, hb, hk⟩; refine ⟨_, rfl, ?_⟩; replace BK106 := Aside0.mk (KeepBut.blk hk (g' := gb106) (o := .cells #[.slice none 0 0, .slice none 0 0] 26 (0, 0)) (uf0_ BK106) NB106_0.out (by simp)); replace HO109 := Aside0.mk (Kd.R_mono (Kd.R_keep (IsS79.apart (show IsS79 w0 _ g s0_0 s0_1 from qz43_) (uf1_ HO109) (by decide)) hk (fun _ h => h.2)) (fun _ h => h.1)); replace HK := Aside0.mk (KeepBut.trans (qz14_) hk (.inl rfl)); replace HB := Aside0.mk (hb); replace HI0 := Aside0.mk (hi); (try clear hb); (try clear hk hi); obtain ⟨Ao11, co11, eo11⟩ := Kd.R_slice HO109.out; subst eo11; have p112 : 0 ≤ (t110 : Int) := of_decide_eq_true (g1_); have q112 : t110 < (y107.length : Int) := of_decide_eq_true (g1_); obtain ⟨ad112, e112, hx112_0⟩ := Kd.at_int (Kd.R_reads' HO109.out).2.2 t110 p112 q112; cases e112; replace p112 := eq_true p112; replace q112 := eq_true q112) | ((with_reducible refine gate_dst (N := 6) rfl ?_); refine bx_ (N := 6) #[.slice none 0 0, .slice none 0 0] 26 ?_; intro gb113 hg w12 hbox hb; replace HO109 := Aside0.mk (Kd.R_below (uf1_ HO109) hb); replace HB := Aside0.mk (below_step (qz44_) hb); have BK113 := Aside0.mk (hbox); have GW113 := Aside0.mk ((g84_ : w.heap.size ≤ gb113)); have GE113 := Aside0.mk ((Nat.le_trans HW0.out (g84_ : w.heap.size ≤ gb113) : w0.heap.size ≤ gb113)); replace HK := Aside0.mk (KeepBut.trans (qz14_) (KeepBut.of_below hb g none) (.inl rfl)); have NB106_113 := Aside0.mk ((by rw [hg]; exact Nat.ne_of_lt (blk_lt (g := gb106) (o := .cells #[.slice none 0 0, .slice none 0 0] 26 (0, 0)) (uf0_ BK106)) : gb106 ≠ gb113)); have NB113_106 := Aside0.mk ((by rw [hg]; exact Nat.ne_of_gt (blk_lt (g := gb106) (o := .cells #[.slice none 0 0, .slice none 0 0] 26 (0, 0)) (uf0_ BK106)) : gb113 ≠ gb106)); replace BK106 := bb_ BK106 hb; have NB0_113 := Aside0.mk ((by rw [hg]; exact Nat.ne_of_lt (IsS79.lt (show IsS79 w0 _ g s0_0 t111 from qz43_)) : g ≠ gb113)); have NB113_0 := Aside0.mk ((by rw [hg]; exact Nat.ne_of_gt (IsS79.lt (show IsS79 w0 _ g s0_0 t111 from qz43_)) : gb113 ≠ g)); replace HI0 := Aside0.mk (IsS79.below (qz43_) hb); clear hb hbox hg; have hnb13 := NB113_106.out; have hnc13 := NB106_113.out; have hnb14 := NB113_0.out; have hnc14 := NB0_113.out; obtain ⟨hcz15_0, hcz15_1, hfz15_0, hfz15_1⟩ := blk2_ BK113) | ((with_reducible refine gate_callee (f := 87) rfl ?_); refine goesL_ (some 19) rfl rfl Try.func87 k_ rfl #[.pointer (some ⟨g, 0, none⟩), .int .i64 3] rfl (g2_) ?_; (with_reducible refine (spec_l20Rd_pick.calls k g s0_0 t111 3 t114 t115 w0 _ ?side1 ?side2 A6.out).mono ?_); (case side1 => exact qz43_); (case side2 => exact qz44_); rintro e w16 ⟨rfl, hi, hb, hk⟩; refine ⟨_, rfl, ?_⟩; replace BK106 := Aside0.mk (KeepBut.blk hk (g' := gb106) (o := .cells #[.slice none 0 0, .slice none 0 0] 26 (0, 0)) (by (with_reducible repeat (first | refine blk_drewN ?_ _ | refine blk_drew ?_ | refine blk_alloc ?_ _)); refine blk_far ?_ NB106_113.out _; (with_reducible repeat (first | refine blk_drewN ?_ _ | refine blk_drew ?_ | refine blk_alloc ?_ _)); refine blk_far ?_ NB106_113.out _; (with_reducible repeat (first | refine blk_drewN ?_ _ | refine blk_drew ?_ | refine blk_alloc ?_ _)); exact BK106.out) NB106_0.out (by simp)); replace HO109 := Aside0.mk (Kd.R_mono (Kd.R_keep (IsS79.apart (show IsS79 w0 _ g s0_0 t111 from qz43_) (by (with_reducible repeat (first | apply Kd.R_alloc | apply Kd.R_drewN | apply Kd.R_drew)); exact (Kd.R_mono (Kd.R_far (p := ⟨gb113, 1, none⟩) (Kd.R_far (p := ⟨gb113, 0, none⟩) (Kd.R_types HO109.out BK113.out (by decide)) (fun _ hk => hk.2) (.slice none 0 0)) (fun _ hk => hk.2) (.slice none 0 0)) (fun _ h_ => h_.1))) (by decide)) hk (fun _ h => h.2)) (fun _ h => h.1)); replace BK113 := Aside0.mk (KeepBut.blk hk (g' := gb113) (o := .cells #[.slice none 0 0, .slice none 0 0] 26 (0, 0)) (by (with_reducible repeat (first | refine blk_drewN ?_ _ | refine blk_drew ?_ | refine blk_alloc ?_ _)); refine blk_put (cs := #[.slice none 0 0, .slice none 0 0]) ?_ 1 _ rfl; (with_reducible repeat (first | refine blk_drewN ?_ _ | refine blk_drew ?_ | refine blk_alloc ?_ _)); refine blk_put (cs := #[.slice none 0 0, .slice none 0 0]) ?_ 0 _ rfl; (with_reducible repeat (first | refine blk_drewN ?_ _ | refine blk_drew ?_ | refine blk_alloc ?_ _)); exact BK113.out) NB113_0.out (by simp)); replace HK := Aside0.mk (KeepBut.trans (qz14_) hk (.inl rfl)); replace HB := Aside0.mk (hb); replace HI0 := Aside0.mk (hi); (try clear hb); (try clear hk hi)))
 go_loopg [8] k (fun kq v8 w' => ∃ (x8_1 : Int) (x1001_1 : Int) (x114000_1 : List Int) (x114001_1 : List (List Int)) (u114000 : Value) (u114001 : Value), v8 = .int .i64 x8_1 ∧ Aside0 (spec_l20Book.l0 kq a1 (rd y107 t110) t114 x8_1 s0_0 x1001_1 x114000_1 x114001_1 = some (r1, r2, r3)) ∧ Aside0 (kq ≤ k) ∧ Aside0 (Kd.R (Kd.int .i64) 3 w' w.heap.size (fun k_ => (w.heap.size ≤ k_)) u114000 x114000_1) ∧ Aside0 (Kd.S (Kd.slice 3 (Kd.int .i64)) 23 w' w.heap.size (fun k_ => (w.heap.size ≤ k_) ∧ some k_ ≠ (u114000 : Value).ownBlock) u114001 x114001_1) ∧ Aside0 (w'.heap[gb106]? = some (.cells #[(.slice none 0 0), (.slice none 0 0)] 26 (0, 0))) ∧ Aside0 (w'.heap[gb113]? = some (.cells #[u114000, u114001] 26 (0, 0))) ∧ Aside0 (IsS79 w0 w' g s0_0 x1001_1) ∧ Aside0 (KeepBut w w' g none) ∧ Aside0 (Below w0.heap.size w0 w'))
 case atStart => exact ⟨(0), (t115), (([] : List Int)), (([] : List (List Int))), (.slice none 0 0), (.slice none 0 0), (g3_), H', ⟨Nat.le_refl _⟩, ⟨g29_⟩, ⟨by first | exact Kd.S_nil _ _ _ _ _ | exact Kd.N_nil _ _ _ _ _ | exact Kd.V_nil _ _ _ _ _ | exact Kd.Q_nil _ _ _ _ _ | exact Kd.R_nil _ _ _ _ _⟩, ⟨uf0_ BK106⟩, ⟨uf0_ BK113⟩, ⟨qz43_⟩, ⟨qz14_⟩, ⟨qz44_⟩⟩
 case round =>
  clear H'
  try clear c1
  try clear p1
  try clear q1
  try clear hx1
  try clear p2
  try clear c4
  try clear c4b0
  try clear c5
  try clear c5b0
  try clear c8
  try clear p11
  try clear q11
  try clear hx11
  try clear c13
  try clear c14
  try clear hcz15_0
  try clear hcz15_1
  try clear hfz15_0
  try clear hfz15_1
  try clear hx112_0
  try clear p112
  try clear q112
  obtain ⟨x8_1, x1001_1, x114000_1, x114001_1, u114000, u114001, rfl, HA, HK1, HO_114000, HO_114001, BK106, BK113, HI0, HK, HB⟩ := hrel
  cases gk with
  | zero => exact absurd HA.out (by simp [spec_l20Book.l0])
  | succ k1 =>
   have H := HA.out
   clear HA
   simp only [spec_l20Book.l0] at H
   by_cases c17 : x8_1 < (rd y107 t110)
   ·rw [if_pos c17] at H
    have c17b0 := decide_eq_true c17
    clear c17
    replace H := Option.bind_eq_some_iff.mp H
    obtain ⟨⟨t116, t117⟩, A180, H⟩ := H
    replace H : ((spec_l20Rd_pick.f k1 s0_0 t117 21).bind fun bt118 => ((some (([0, t116, bt118.1] : List Int) : List Int)).bind fun y120 => (if 0 ≤ t114 then (if t114 < (y120.length : Int) then (if x114000_1.length < 17592186044416 then (spec_l20Book.l1 k1 a1 (rd y107 t110) t114 x8_1 (([] : List Int)) 0 s0_0 bt118.2 (x114000_1 ++ [rd y120 t114]) x114001_1) else (none)) else (none)) else (none)))) = some (r1, r2, r3) := H
    have A18 := Aside0.mk A180
    clear A180
    replace H := Option.bind_eq_some_iff.mp H
    obtain ⟨⟨t118, t119⟩, A190, H⟩ := H
    replace H : ((some (([0, t116, t118] : List Int) : List Int)).bind fun y120 => (if 0 ≤ t114 then (if t114 < (y120.length : Int) then (if x114000_1.length < 17592186044416 then (spec_l20Book.l1 k1 a1 (rd y107 t110) t114 x8_1 (([] : List Int)) 0 s0_0 t119 (x114000_1 ++ [rd y120 t114]) x114001_1) else (none)) else (none)) else (none))) = some (r1, r2, r3) := H
    have A19 := Aside0.mk A190
    clear A190
    obtain ⟨y120, hy120⟩ : ∃ y_ : List Int, y_ = (([0, t116, t118] : List Int)) := ⟨_, rfl⟩
    replace H : (if 0 ≤ t114 then (if t114 < (y120.length : Int) then (if x114000_1.length < 17592186044416 then (spec_l20Book.l1 k1 a1 (rd y107 t110) t114 x8_1 (([] : List Int)) 0 s0_0 t119 (x114000_1 ++ [rd y120 t114]) x114001_1) else (none)) else (none)) else (none)) = some (r1, r2, r3) := by first | (rw [hy120]; with_reducible exact H) | (have H2_ := (Option.bind_some _ _).symm.trans H; rw [hy120]; with_reducible exact H2_) | (have H2_ := (Option.bind_some _ _).symm.trans H; with_reducible exact H2_) | with_reducible exact H | (rw [hy120]; exact H) | exact H
    have Ny120 := Aside0.mk hy120
    clear hy120
    obtain ⟨c20, H⟩ := pos_ H
    have c20b0 := decide_eq_true c20
    clear c20
    obtain ⟨c21, H⟩ := pos_ H
    have c21b0 := decide_eq_true c21
    clear c21
    obtain ⟨c22, H⟩ := pos_ H
    have LMc22 := Aside0.mk c22
    clear c22
    obtain ⟨y124, hy124⟩ : ∃ y_ : List Int, y_ = (x114000_1 ++ [rd y120 t114]) := ⟨_, rfl⟩
    replace H : (spec_l20Book.l1 k1 a1 (rd y107 t110) t114 x8_1 (([] : List Int)) 0 s0_0 t119 y124 x114001_1) = some (r1, r2, r3) := by first | (rw [hy124]; with_reducible exact H) | (have H2_ := (Option.bind_some _ _).symm.trans H; rw [hy124]; with_reducible exact H2_) | (have H2_ := (Option.bind_some _ _).symm.trans H; with_reducible exact H2_) | with_reducible exact H | (rw [hy124]; exact H) | exact H
    have Ny124 := Aside0.mk hy124
    clear hy124
    obtain ⟨y127, hy127⟩ : ∃ y_ : List Int, y_ = (([] : List Int)) := ⟨_, rfl⟩
    replace H : (spec_l20Book.l1 k1 a1 (rd y107 t110) t114 x8_1 y127 0 s0_0 t119 y124 x114001_1) = some (r1, r2, r3) := by first | (rw [hy127]; with_reducible exact H) | (have H2_ := (Option.bind_some _ _).symm.trans H; rw [hy127]; with_reducible exact H2_) | (have H2_ := (Option.bind_some _ _).symm.trans H; with_reducible exact H2_) | with_reducible exact H | (rw [hy127]; exact H) | exact H
    have Ny127 := Aside0.mk hy127
    clear hy127
    have H' := Aside0.mk H
    clear H
    try go_wp2
    have pi123 : (0 ≤ (t114 : Int)) = True := eq_true (of_decide_eq_true (g1_))
    have qi123 : (t114 < (y120.length : Int)) = True := eq_true (of_decide_eq_true (g1_))
    replace HO_114000 := Aside0.mk (Kd.R_drew HO_114000.out)
    replace HO_114001 := Aside0.mk (Kd.S_drew HO_114001.out)
    replace BK106 := Aside0.mk (blk_drew BK106.out)
    replace BK113 := Aside0.mk (blk_drew BK113.out)
    replace HI0 := Aside0.mk (IsS79.drew HI0.out)
    replace HK := Aside0.mk (keep_drew HK.out)
    replace HB := Aside0.mk (below_drew1 HB.out)
    refine start_ (n := 14) (S := fun w' => w'.cell? ⟨gb113, 0, none⟩ = some (u114000) ∧ w'.cell? ⟨gb113, 1, none⟩ = some (u114001)) (ds := [13]) (tl_ 14 0) (g0_) rfl (g0_) ⟨(blk_cell BK113.out 0).trans rfl, (blk_cell BK113.out 1).trans rfl⟩ (fun hHeld => ?_); refine with_tabW spec_l20Book.tab7 spec_l20Book.bits7 (fun HT_ HW_ => ?_)
    generalize wr.drew = w23 at HO_114000 HO_114001 BK106 BK113 HI0 HK HB hHeld ⊢
    refine pw_ 0 25 (tl_ 14 1) rfl rfl ?_
    refine pw_ 2 27 (tl_ 14 5) rfl rfl ?_
    refine pw_ 4 29 (tl_ 14 21) rfl rfl ?_
    refine pw_ 7 32 (tl_ 14 149) rfl rfl ?_
    refine tk0_ 1 26 (tl_ 14 151) rfl rfl hHeld ?_
    refine one_ (i := 3) (N := some 28) (tl_ 14 159) rfl rfl (one_of HT_.out (g0_)) (by decide) (fun K hK => ?_)
    refine goes_ Try.func87 (g0_) rfl #[.pointer (some ⟨g, 0, none⟩), .int .i64 4] (by rfl) rfl rfl (g2_) ?_
    with_reducible refine (spec_l20Rd_pick.calls k1 g s0_0 x1001_1 4 t116 t117 w0 _ ?side1 ?side2 A18.out).mono ?_
    (case side1 => exact qz43_)
    (case side2 => exact qz44_)
    rintro e w24 ⟨rfl, hi, hb, hk⟩
    refine ⟨_, rfl, ?_⟩
    replace HO_114000 := Aside0.mk (Kd.R_mono (Kd.R_keep (IsS79.apart (show IsS79 w0 _ g s0_0 x1001_1 from qz43_) (uf1_ HO_114000) (by decide)) hk (fun _ h => h.2)) (fun _ h => h.1))
    replace HO_114001 := Aside0.mk (Kd.S_mono (Kd.S_keep (IsS79.apartS (show IsS79 w0 _ g s0_0 x1001_1 from qz43_) (uf2_ HO_114001) (by decide)) hk (fun _ h => h.2)) (fun _ h => h.1))
    replace BK106 := Aside0.mk (KeepBut.blk hk (g' := gb106) (o := .cells #[.slice none 0 0, .slice none 0 0] 26 (0, 0)) (uf0_ BK106) NB106_0.out (by simp))
    replace BK113 := Aside0.mk (KeepBut.blk hk (g' := gb113) (o := .cells #[u114000, u114001] 26 (0, 0)) (uf0_ BK113) NB113_0.out (by simp))
    replace HK := Aside0.mk (KeepBut.trans (qz14_) hk (.inl rfl))
    replace HB := Aside0.mk (hb)
    replace HI0 := Aside0.mk (hi)
    (try clear hb)
    (try clear hk hi)
    refine hK.out _ _ ⟨(blk_cell BK113.out 0).trans rfl, (blk_cell BK113.out 1).trans rfl⟩ (fun hHeld => ?_)
    clear hK K
    refine nm_ ?_
    refine one_ (i := 5) (N := some 30) (tl_ 14 191) rfl rfl (one_of HT_.out (g0_)) (by decide) (fun K hK => ?_)
    refine goes_ Try.func87 (g0_) rfl #[.pointer (some ⟨g, 0, none⟩), .int .i64 21] (by rfl) rfl rfl (g2_) ?_
    with_reducible refine (spec_l20Rd_pick.calls k1 g s0_0 t117 21 t118 t119 w0 _ ?side1 ?side2 A19.out).mono ?_
    (case side1 => exact qz43_)
    (case side2 => exact qz44_)
    rintro e w25 ⟨rfl, hi, hb, hk⟩
    refine ⟨_, rfl, ?_⟩
    replace HO_114000 := Aside0.mk (Kd.R_mono (Kd.R_keep (IsS79.apart (show IsS79 w0 _ g s0_0 t117 from qz43_) (uf1_ HO_114000) (by decide)) hk (fun _ h => h.2)) (fun _ h => h.1))
    replace HO_114001 := Aside0.mk (Kd.S_mono (Kd.S_keep (IsS79.apartS (show IsS79 w0 _ g s0_0 t117 from qz43_) (uf2_ HO_114001) (by decide)) hk (fun _ h => h.2)) (fun _ h => h.1))
    replace BK106 := Aside0.mk (KeepBut.blk hk (g' := gb106) (o := .cells #[.slice none 0 0, .slice none 0 0] 26 (0, 0)) (uf0_ BK106) NB106_0.out (by simp))
    replace BK113 := Aside0.mk (KeepBut.blk hk (g' := gb113) (o := .cells #[u114000, u114001] 26 (0, 0)) (uf0_ BK113) NB113_0.out (by simp))
    replace HK := Aside0.mk (KeepBut.trans (qz14_) hk (.inl rfl))
    replace HB := Aside0.mk (hb)
    replace HI0 := Aside0.mk (hi)
    (try clear hb)
    (try clear hk hi)
    refine hK.out _ _ ⟨(blk_cell BK113.out 0).trans rfl, (blk_cell BK113.out 1).trans rfl⟩ (fun hHeld => ?_)
    clear hK K
    refine nm_ ?_
    refine one_ (i := 6) (N := some 31) (tl_ 14 255) rfl rfl (one_of HT_.out (g0_)) (by decide) (fun K hK => ?_)
    refine Kd.R_lit_step (Kd.int .i64) _ 3 ?hg (N := 31) ?hd (xs := ([0, t116, t118] : List Int)) (inner := [.int .i64 0, .int .i64 t116, .int .i64 t118]) (ok := fun _ => True) (okp := fun _ => True) ?hr ?hp (fun _ hk => hk) trivial (Below.refl _ _) (Nat.le_refl _) (by simp) ?_; (case hd => rfl); (case hg => rfl); (case hr => first | (go_simp; done) | (go_simp; rfl)); (case hp => exact (Reps.one (show Kd.M (Kd.int .i64) _ _ _ 0 [.int .i64 0] from rfl) (Reps.one (show Kd.M (Kd.int .i64) _ _ _ t116 [.int .i64 t116] from rfl) (Reps.one (show Kd.M (Kd.int .i64) _ _ _ t118 [.int .i64 t118] from rfl) (Reps.none _ _)))))
    intro v121 w26 ho27 hb hg_ hnew_
    clear hg_ hnew_
    (first | rw [← Ny120.out] at ho27 | (simp only [Int.reduceToNat] at ho27; rw [← Ny120.out] at ho27))
    replace HO_114001 := Aside0.mk (Kd.S_elder' (uf2_ HO_114001) (Kd.R_base ho27) hb)
    have HO122 := Aside0.mk (Kd.R_lower (Kd.R_new' (Kd.R_newM (M := fun k_ => (w.heap.size ≤ k_)) ho27 (keep_size (w := w) (g := g) (row := none) (qz14_)) (fun k_ h_ => h_)) (Kd.R_lt (uf1_ HO_114000))) (keep_size (w := w) (g := g) (row := none) (qz14_)))
    replace HO_114000 := Aside0.mk (Kd.R_elder' (uf1_ HO_114000) (Kd.R_base ho27) hb)
    replace BK106 := bb_ BK106 hb
    replace BK113 := bb_ BK113 hb
    replace HK := Aside0.mk (KeepBut.trans (qz14_) (KeepBut.of_below hb g none) (.inl rfl))
    replace HB := Aside0.mk (below_step (qz44_) hb)
    replace HI0 := Aside0.mk (IsS79.below (qz43_) hb)
    clear hb ho27
    obtain ⟨Ao28, co28, eo28⟩ := Kd.R_slice HO122.out
    subst eo28
    obtain ⟨ado28, fo28, _⟩ := Kd.at_int (Kd.R_reads' HO122.out).2.2 0 (by decide) (by rw [Ny120.out]; simp)
    cases fo28
    refine hK.out _ _ ⟨(blk_cell BK113.out 0).trans rfl, (blk_cell BK113.out 1).trans rfl⟩ (fun hHeld => ?_)
    clear hK K
    refine nm_ ?_
    refine pw_ 8 33 (tl_ 14 511) rfl rfl ?_
    refine one_ (i := 9) (N := some 34) (tl_ 14 1023) rfl rfl (one_of HT_.out (g0_)) (by decide) (fun K hK => ?_)
    (have p123 : 0 ≤ (t114 : Int) := of_decide_eq_true (g1_); have q123 : t114 < (y120.length : Int) := of_decide_eq_true (g1_); obtain ⟨ad123, e123, hx123_0⟩ := Kd.at_int (Kd.R_reads' HO122.out).2.2 t114 p123 q123; obtain rfl : ado28 = ad123 := (by injection e123))
    refine value_ (w1 := ?_) (v := ?_) (by rfl) rfl ?_ ?_
    rotate_left 2
    ·go_simp
     constructor
     ·rfl
     ·rfl
    clear hx123_0
    refine hK.out _ _ ⟨(blk_cell BK113.out 0).trans rfl, (blk_cell BK113.out 1).trans rfl⟩ (fun hHeld => ?_)
    clear hK K
    refine nm_ ?_
    refine one_ (i := 10) (N := some 35) (tl_ 14 2047) rfl rfl (one_of HT_.out (g0_)) (by decide) (fun K hK => ?_)
    refine value_ (w1 := ?_) (v := ?_) (by rfl) rfl ?_ ?_
    rotate_left 2
    ·go_simp
     constructor
     ·rfl
     ·rfl
    refine hK.out _ _ ⟨(blk_cell (blk_alloc BK113.out _) 0).trans rfl, (blk_cell (blk_alloc BK113.out _) 1).trans rfl⟩ (fun hHeld => ?_)
    clear hK K
    refine nm_ ?_
    refine one_ (i := 11) (N := some 36) (tl_ 14 4095) rfl rfl (one_of HT_.out (g0_)) (by decide) (fun K hK => ?_)
    refine Kd.R_append_step (Kd.int .i64) w.heap.size (by rfl) (.tmp 26) (.tmp 35) 23 3 (.int .i64 0) 8 rfl Try.underlying23 info3 rfl (by decide) (by omega) u114000 x114000_1 (rd y120 t114) [.int .i64 (rd y120 t114)] (fun k_ => (w.heap.size ≤ k_) ∧ some k_ ≠ (.slice (some ado28) y120.length co28 : Value).ownBlock) (fun _ => False) rfl rfl ?aP (fun _ hk => hk.elim) ?aF ?aO (Below.refl _ _) ?aS ?aL ?_
    (case aP => exact rfl)
    (case aF => exact (fun k_ hk => ⟨(Nat.le_trans (keep_size (w := w) (g := g) (row := none) (qz14_)) hk), Kd.fresh' (Kd.R_lt (uf1_ HO122)) k_ hk⟩))
    (case aO => exact (uf1_ HO_114000))
    (case aS => exact (keep_size (w := w) (g := g) (row := none) (qz14_)))
    (case aL => have := LMc22.out; omega)
    intro v125 w29 ho hb hg hat
    rw [← Ny124.out] at ho
    replace HO_114001 := Aside0.mk (Kd.S_after (ok := (fun k_ => (w.heap.size ≤ k_) ∧ some k_ ≠ (.slice (some ado28) y120.length co28 : Value).ownBlock)) (by (with_reducible repeat (first | apply Kd.S_alloc | apply Kd.S_drewN | apply Kd.S_drew)); exact Kd.S_mono HO_114001.out (fun _ hk => ⟨⟨hk.1.1, hk.2⟩, hk.1.2⟩)) hg hat)
    replace BK106 := Aside0.mk (blk_grown (g := gb106) (o := .cells #[.slice none 0 0, .slice none 0 0] 26 (0, 0)) (uf0_ BK106) hg (Kd.R_ne HO_114000.out BK106.out (by decide)))
    replace BK113 := Aside0.mk (blk_grown (g := gb113) (o := .cells #[u114000, u114001] 26 (0, 0)) (uf0_ BK113) hg (Kd.R_ne HO_114000.out BK113.out (by decide)))
    replace HO122 := Aside0.mk (Kd.R_after (ok := (fun k_ => (w.heap.size ≤ k_))) (by (with_reducible repeat (first | apply Kd.R_alloc | apply Kd.R_drewN | apply Kd.R_drew)); exact Kd.R_mono HO122.out (fun _ hk => ⟨hk.1.1, hk.2⟩)) hg hat)
    replace HB := Aside0.mk (below_weaken (qz44_) HL.out hb)
    replace HI0 := Aside0.mk (IsS79.grown (qz43_) hg (IsS79.own_ne HI0.out HO_114000.out (by decide)))
    replace HK := Aside0.mk (KeepBut.trans (qz14_) (KeepBut.of_grown hg g) (Kd.R_base2 HO_114000.out))
    have HO126 := Aside0.mk (ho)
    clear HO_114000
    clear ho hb hg hat
    obtain ⟨Ao30, co30, eo30⟩ := Kd.R_slice HO126.out
    (first | subst eo30 | (injection eo30 with f1_ f2_ f3_; have f4_ := f1_.symm; have f5_ := f3_.symm; clear f1_ f2_ f3_; subst f4_; subst f5_))
    refine hK.out _ _ ⟨(blk_cell BK113.out 0).trans rfl, (blk_cell BK113.out 1).trans rfl⟩ (fun hHeld => ?_)
    clear hK K
    refine nm_ ?_
    refine pw_ 12 37 (tl_ 14 8191) rfl rfl ?_
    refine last_ (i := 13) (N := none) (tl_ 14 16383) rfl rfl (one_of HT_.out (g0_)) (by decide) (fun K hK => ?_)
    have hs31 : w29.cell? ⟨gb113, 0, none⟩ = some (u114000) := (blk_cell BK113.out 0).trans rfl
    have hfs31 := blk_frozen BK113.out 0
    have hns31_0 := NB106_113.out
    have hms31_0 := NB113_106.out
    refine skip_ (w1 := ?_) (by rfl) rfl ?_ ?_
    rotate_left
    ·go_simp
     rfl
    refine hK.out _ _ ?_
    clear hK K
    refine done_ (done_of HT_.out (g0_)) ?_
    try go_wp2_with (first | ((with_reducible refine gate_dst (N := 38) rfl ?_); refine Kd.R_lit (Kd.int .i64) _ 3 ?hg (N := 38) ?hd (xs := ([] : List Int)) (inner := []) (ok := fun _ => True) (okp := fun _ => True) ?hr ?hp (fun _ hk => hk) trivial (Below.refl _ _) (Nat.le_refl _) (by simp) ?_; (case hd => rfl); (case hg => rfl); (case hr => first | (go_simp; done) | (go_simp; rfl)); (case hp => exact (Reps.none _ _)); intro v128 w32 ho33 hb hg_ hnew_; clear hg_ hnew_; (first | rw [← Ny127.out] at ho33 | (simp only [Int.reduceToNat] at ho33; rw [← Ny127.out] at ho33)); replace HO_114001 := Aside0.mk (Kd.S_elder' (by (with_reducible repeat (first | apply Kd.S_alloc | apply Kd.S_drewN | apply Kd.S_drew)); exact (Kd.S_mono (Kd.S_far (p := ⟨gb113, 0, none⟩) (Kd.S_types HO_114001.out BK113.out (by decide)) (fun _ hk => hk.2) (.slice Ao30 y124.length co30)) (fun _ h_ => h_.1))) (Kd.R_base ho33) hb); have HO129 := Aside0.mk (Kd.R_lower (Kd.R_new' (Kd.R_new' (Kd.R_newM (M := fun k_ => (w.heap.size ≤ k_)) ho33 (keep_size (w := w) (g := g) (row := none) (qz14_)) (fun k_ h_ => h_)) (Kd.R_lt (by (with_reducible repeat (first | apply Kd.R_alloc | apply Kd.R_drewN | apply Kd.R_drew)); exact (Kd.R_mono (Kd.R_far (p := ⟨gb113, 0, none⟩) (Kd.R_types HO122.out BK113.out (by decide)) (fun _ hk => hk.2) (.slice Ao30 y124.length co30)) (fun _ h_ => h_.1))))) (Kd.R_lt (by (with_reducible repeat (first | apply Kd.R_alloc | apply Kd.R_drewN | apply Kd.R_drew)); exact (Kd.R_mono (Kd.R_far (p := ⟨gb113, 0, none⟩) (Kd.R_types HO126.out BK113.out (by decide)) (fun _ hk => hk.2) (.slice Ao30 y124.length co30)) (fun _ h_ => h_.1))))) (keep_size (w := w) (g := g) (row := none) (qz14_))); replace HO122 := Aside0.mk (Kd.R_elder' (by (with_reducible repeat (first | apply Kd.R_alloc | apply Kd.R_drewN | apply Kd.R_drew)); exact (Kd.R_mono (Kd.R_far (p := ⟨gb113, 0, none⟩) (Kd.R_types HO122.out BK113.out (by decide)) (fun _ hk => hk.2) (.slice Ao30 y124.length co30)) (fun _ h_ => h_.1))) (Kd.R_base ho33) hb); replace HO126 := Aside0.mk (Kd.R_elder' (by (with_reducible repeat (first | apply Kd.R_alloc | apply Kd.R_drewN | apply Kd.R_drew)); exact (Kd.R_mono (Kd.R_far (p := ⟨gb113, 0, none⟩) (Kd.R_types HO126.out BK113.out (by decide)) (fun _ hk => hk.2) (.slice Ao30 y124.length co30)) (fun _ h_ => h_.1))) (Kd.R_base ho33) hb); replace BK106 := Aside0.mk (blk_below (g := gb106) (o := .cells #[.slice none 0 0, .slice none 0 0] 26 (0, 0)) (by (with_reducible repeat (first | refine blk_drewN ?_ _ | refine blk_drew ?_ | refine blk_alloc ?_ _)); refine blk_far ?_ NB106_113.out _; (with_reducible repeat (first | refine blk_drewN ?_ _ | refine blk_drew ?_ | refine blk_alloc ?_ _)); exact BK106.out) hb); replace BK113 := Aside0.mk (blk_below (g := gb113) (o := .cells #[.slice Ao30 y124.length co30, u114001] 26 (0, 0)) (by (with_reducible repeat (first | refine blk_drewN ?_ _ | refine blk_drew ?_ | refine blk_alloc ?_ _)); refine blk_put (cs := #[u114000, u114001]) ?_ 0 _ rfl; (with_reducible repeat (first | refine blk_drewN ?_ _ | refine blk_drew ?_ | refine blk_alloc ?_ _)); exact BK113.out) hb); replace HK := Aside0.mk (KeepBut.trans (qz14_) (KeepBut.of_below hb g none) (.inl rfl)); replace HB := Aside0.mk (below_step (qz44_) hb); replace HI0 := Aside0.mk (IsS79.below (show IsS79 w0 (w29.setCell ⟨gb113, 0, none⟩ (.slice Ao30 y124.length co30)) g s0_0 t119 from qz43_) hb); clear hb ho33))
    go_loopg [9, 10] k1 (fun kq v9 v10 w' => ∃ (x9_2 : List Int) (x10_2 : Int) (x1001_2 : Int), v10 = .int .i64 x10_2 ∧ Aside0 (spec_l20Book.l1 kq a1 (rd y107 t110) t114 x8_1 x9_2 x10_2 s0_0 x1001_2 y124 x114001_1 = some (r1, r2, r3)) ∧ Aside0 (kq ≤ k1) ∧ Aside0 (Kd.R (Kd.int .i64) 3 w' w.heap.size (fun k_ => (w.heap.size ≤ k_) ∧ some k_ ≠ ((.slice Ao30 y124.length co30) : Value).ownBlock) v9 x9_2) ∧ Aside0 (Kd.R (Kd.int .i64) 3 w' w.heap.size (fun k_ => (w.heap.size ≤ k_) ∧ some k_ ≠ (v9 : Value).ownBlock) (.slice Ao30 y124.length co30) y124) ∧ Aside0 (Kd.S (Kd.slice 3 (Kd.int .i64)) 23 w' w.heap.size (fun k_ => (w.heap.size ≤ k_) ∧ some k_ ≠ (v9 : Value).ownBlock ∧ some k_ ≠ ((.slice Ao30 y124.length co30) : Value).ownBlock) u114001 x114001_1) ∧ Aside0 (w'.heap[gb106]? = some (.cells #[(.slice none 0 0), (.slice none 0 0)] 26 (0, 0))) ∧ Aside0 (w'.heap[gb113]? = some (.cells #[(.slice Ao30 y124.length co30), u114001] 26 (0, 0))) ∧ Aside0 (IsS79 w0 w' g s0_0 x1001_2) ∧ Aside0 (KeepBut w w' g none) ∧ Aside0 (Below w0.heap.size w0 w'))
    case atStart => exact ⟨(y127), (0), (t119), (g3_), H', ⟨Nat.le_refl _⟩, ⟨by (with_reducible repeat (first | apply Kd.R_alloc | apply Kd.R_drewN | apply Kd.R_drew)); exact Kd.R_mono HO129.out (fun _ hk => ⟨hk.1.1.1, hk.2⟩)⟩, ⟨by (with_reducible repeat (first | apply Kd.R_alloc | apply Kd.R_drewN | apply Kd.R_drew)); exact Kd.R_mono HO126.out (fun _ hk => ⟨hk.1.1, hk.2⟩)⟩, ⟨by (with_reducible repeat (first | apply Kd.S_alloc | apply Kd.S_drewN | apply Kd.S_drew)); exact Kd.S_mono HO_114001.out (fun _ hk => ⟨hk.1.1.1, ⟨hk.2, hk.1.2⟩⟩)⟩, ⟨uf0_ BK106⟩, ⟨uf0_ BK113⟩, ⟨qz43_⟩, ⟨qz14_⟩, ⟨qz44_⟩⟩
    case round =>
     clear H'
     try clear c1
     try clear p1
     try clear q1
     try clear hx1
     try clear qi1
     try clear c2
     try clear p2
     try clear c4
     try clear c4b0
     try clear c5
     try clear c5b0
     try clear c8
     try clear p11
     try clear q11
     try clear hx11
     try clear p12
     try clear q12
     try clear hx12
     try clear qi12
     try clear c13
     try clear c14
     try clear c17
     try clear c17b0
     try clear c20
     try clear c20b0
     try clear c21
     try clear c21b0
     try clear c22
     try clear hcz15_0
     try clear hcz15_1
     try clear hfz15_0
     try clear hfz15_1
     try clear hx112_0
     try clear hx123_0
     try clear p1
     try clear p11
     try clear p112
     try clear p123
     try clear p2
     try clear q1
     try clear q11
     try clear q112
     try clear q123
     obtain ⟨x9_2, x10_2, x1001_2, rfl, HA, HK2, HO_9, HO_114000, HO_114001, BK106, BK113, HI0, HK, HB⟩ := hrel
     cases gk with
     | zero => exact absurd HA.out (by simp [spec_l20Book.l1])
     | succ k2 =>
      have H := HA.out
      clear HA
      simp only [spec_l20Book.l1] at H
      by_cases c34 : x10_2 < (rd y107 t110)
      ·rw [if_pos c34] at H
       have c34b0 := decide_eq_true c34
       clear c34
       by_cases c35 : x8_1 = x10_2
       ·rw [if_pos c35] at H
        have c35b0 : (x8_1 == x10_2) = true := beq_iff_eq.mpr c35
        have c35b1 : (x8_1 != x10_2) = false := bne_eq_false_iff_eq.mpr c35
        clear c35
        obtain ⟨c36, H⟩ := pos_ H
        have LMc36 := Aside0.mk c36
        clear c36
        obtain ⟨y133, hy133⟩ : ∃ y_ : List Int, y_ = (x9_2 ++ [0]) := ⟨_, rfl⟩
        replace H : (spec_l20Book.l1 k2 a1 (rd y107 t110) t114 x8_1 y133 (wrap64 (x10_2 + 1)) s0_0 x1001_2 y124 x114001_1) = some (r1, r2, r3) := by first | (rw [hy133]; with_reducible exact H) | (have H2_ := (Option.bind_some _ _).symm.trans H; rw [hy133]; with_reducible exact H2_) | (have H2_ := (Option.bind_some _ _).symm.trans H; with_reducible exact H2_) | with_reducible exact H | (rw [hy133]; exact H) | exact H
        have Ny133 := Aside0.mk hy133
        clear hy133
        have H' := Aside0.mk H
        clear H
        go_wp2_with (first | ((with_reducible refine gate_builtin (b := .append) (xs := #[.tmp 54, .tmp 56]) rfl ?_); at_builtin; refine Kd.R_append (Kd.int .i64) w.heap.size rfl (.tmp 54) (.tmp 56) 23 3 (.int .i64 0) 8 rfl Try.underlying23 info3 rfl (by decide) (by omega) u9 x9_2 0 [.int .i64 0] (fun k_ => (w.heap.size ≤ k_) ∧ some k_ ≠ (.slice Ao30 y124.length co30 : Value).ownBlock) (fun _ => False) rfl rfl ?aP (fun _ hk => hk.elim) ?aF ?aO (Below.refl _ _) ?aS ?aL ?_; (case aP => exact rfl); (case aF => exact (fun k_ hk => ⟨(Nat.le_trans (keep_size (w := w) (g := g) (row := none) (qz14_)) hk), Kd.fresh' (Kd.R_lt (uf1_ HO_114000)) k_ hk⟩)); (case aO => exact (uf1_ HO_9)); (case aS => exact (keep_size (w := w) (g := g) (row := none) (qz14_))); (case aL => have := LMc36.out; omega); intro v134 w37 ho hb hg hat; rw [← Ny133.out] at ho; replace HO_114000 := Aside0.mk (Kd.R_after (ok := (fun k_ => (w.heap.size ≤ k_))) (uf1_ HO_114000) hg hat); replace HO_114001 := Aside0.mk (Kd.S_after (ok := (fun k_ => (w.heap.size ≤ k_) ∧ some k_ ≠ (.slice Ao30 y124.length co30 : Value).ownBlock)) (g126_) hg hat); replace BK106 := Aside0.mk (blk_grown (g := gb106) (o := .cells #[.slice none 0 0, .slice none 0 0] 26 (0, 0)) (uf0_ BK106) hg (Kd.R_ne HO_9.out BK106.out (by decide))); replace BK113 := Aside0.mk (blk_grown (g := gb113) (o := .cells #[.slice Ao30 y124.length co30, u114001] 26 (0, 0)) (uf0_ BK113) hg (Kd.R_ne HO_9.out BK113.out (by decide))); replace HB := Aside0.mk (below_weaken (qz44_) HL.out hb); replace HI0 := Aside0.mk (IsS79.grown (qz43_) hg (IsS79.own_ne HI0.out HO_9.out (by decide))); replace HK := Aside0.mk (KeepBut.trans (qz14_) (KeepBut.of_grown hg g) (Kd.R_base2 HO_9.out)); have HO135 := Aside0.mk (ho); clear HO_9; clear ho hb hg hat))
        go_roundg k2
        case measure => have := HK1.out; have := HK2.out; omega
        case rel => exact ⟨(y133), (wrap64 (x10_2 + 1)), (x1001_2), (g3_), H', ⟨g34_⟩, ⟨uf1_ HO135⟩, ⟨uf1_ HO_114000⟩, ⟨g127_⟩, ⟨uf0_ BK106⟩, ⟨uf0_ BK113⟩, ⟨qz43_⟩, ⟨qz14_⟩, ⟨qz44_⟩⟩
       ·rw [if_neg c35] at H
        have c35b0 : (x8_1 == x10_2) = false := beq_eq_false_iff_ne.mpr c35
        have c35b1 : (x8_1 != x10_2) = true := bne_iff_ne.mpr c35
        replace H := Option.bind_eq_some_iff.mp H
        obtain ⟨⟨t136, t137⟩, A380, H⟩ := H
        replace H : (if t136 > 0 then ((spec_l20Rd_pick.f k2 s0_0 t137 10).bind fun bt138 => (if x9_2.length < 17592186044416 then (spec_l20Book.l1 k2 a1 (rd y107 t110) t114 x8_1 (x9_2 ++ [bt138.1]) (wrap64 (x10_2 + 1)) s0_0 bt138.2 y124 x114001_1) else (none))) else (if x9_2.length < 17592186044416 then (spec_l20Book.l1 k2 a1 (rd y107 t110) t114 x8_1 (x9_2 ++ [0]) (wrap64 (x10_2 + 1)) s0_0 t137 y124 x114001_1) else (none))) = some (r1, r2, r3) := H
        have A38 := Aside0.mk A380
        clear A380
        by_cases c39 : t136 > 0
        ·rw [if_pos c39] at H
         have c39b0 := decide_eq_true c39
         clear c39
         replace H := Option.bind_eq_some_iff.mp H
         obtain ⟨⟨t138, t139⟩, A400, H⟩ := H
         replace H : (if x9_2.length < 17592186044416 then (spec_l20Book.l1 k2 a1 (rd y107 t110) t114 x8_1 (x9_2 ++ [t138]) (wrap64 (x10_2 + 1)) s0_0 t139 y124 x114001_1) else (none)) = some (r1, r2, r3) := H
         have A40 := Aside0.mk A400
         clear A400
         obtain ⟨c41, H⟩ := pos_ H
         have LMc41 := Aside0.mk c41
         clear c41
         obtain ⟨y140, hy140⟩ : ∃ y_ : List Int, y_ = (x9_2 ++ [t138]) := ⟨_, rfl⟩
         replace H : (spec_l20Book.l1 k2 a1 (rd y107 t110) t114 x8_1 y140 (wrap64 (x10_2 + 1)) s0_0 t139 y124 x114001_1) = some (r1, r2, r3) := by first | (rw [hy140]; with_reducible exact H) | (have H2_ := (Option.bind_some _ _).symm.trans H; rw [hy140]; with_reducible exact H2_) | (have H2_ := (Option.bind_some _ _).symm.trans H; with_reducible exact H2_) | with_reducible exact H | (rw [hy140]; exact H) | exact H
         have Ny140 := Aside0.mk hy140
         clear hy140
         have H' := Aside0.mk H
         clear H
         go_wp2_with (first | (go_at_call 87; (with_reducible refine (spec_l20Rd_pick.calls k2 g s0_0 x1001_2 3 t136 t137 w0 _ ?side1 ?side2 A38.out).mono ?_); (case side1 => exact qz43_); (case side2 => exact qz44_); rintro e w42 ⟨rfl, hi, hb, hk⟩; replace HO_9 := Aside0.mk (Kd.R_mono (Kd.R_keep (IsS79.apart (show IsS79 w0 _ g s0_0 x1001_2 from qz43_) (uf1_ HO_9) (by decide)) hk (fun _ h => h.2)) (fun _ h => h.1)); replace HO_114000 := Aside0.mk (Kd.R_mono (Kd.R_keep (IsS79.apart (show IsS79 w0 _ g s0_0 x1001_2 from qz43_) (uf1_ HO_114000) (by decide)) hk (fun _ h => h.2)) (fun _ h => h.1)); replace HO_114001 := Aside0.mk (Kd.S_mono (Kd.S_keep (IsS79.apartS (show IsS79 w0 _ g s0_0 x1001_2 from qz43_) (uf2_ HO_114001) (by decide)) hk (fun _ h => h.2)) (fun _ h => h.1)); replace BK106 := Aside0.mk (KeepBut.blk hk (g' := gb106) (o := .cells #[.slice none 0 0, .slice none 0 0] 26 (0, 0)) (uf0_ BK106) NB106_0.out (by simp)); replace BK113 := Aside0.mk (KeepBut.blk hk (g' := gb113) (o := .cells #[.slice Ao30 y124.length co30, u114001] 26 (0, 0)) (uf0_ BK113) NB113_0.out (by simp)); replace HK := Aside0.mk (KeepBut.trans (qz14_) hk (.inl rfl)); replace HB := Aside0.mk (hb); replace HI0 := Aside0.mk (hi); (try clear hb); (try clear hk hi)) | ((with_reducible refine gate_callee (f := 87) rfl ?_); refine goesL_ (some 53) rfl rfl Try.func87 k_ rfl #[.pointer (some ⟨g, 0, none⟩), .int .i64 10] rfl (g2_) ?_; (with_reducible refine (spec_l20Rd_pick.calls k2 g s0_0 t137 10 t138 t139 w0 _ ?side1 ?side2 A40.out).mono ?_); (case side1 => exact qz43_); (case side2 => exact qz44_); rintro e w43 ⟨rfl, hi, hb, hk⟩; refine ⟨_, rfl, ?_⟩; replace HO_9 := Aside0.mk (Kd.R_mono (Kd.R_keep (IsS79.apart (show IsS79 w0 _ g s0_0 t137 from qz43_) (uf1_ HO_9) (by decide)) hk (fun _ h => h.2)) (fun _ h => h.1)); replace HO_114000 := Aside0.mk (Kd.R_mono (Kd.R_keep (IsS79.apart (show IsS79 w0 _ g s0_0 t137 from qz43_) (uf1_ HO_114000) (by decide)) hk (fun _ h => h.2)) (fun _ h => h.1)); replace HO_114001 := Aside0.mk (Kd.S_mono (Kd.S_keep (IsS79.apartS (show IsS79 w0 _ g s0_0 t137 from qz43_) (uf2_ HO_114001) (by decide)) hk (fun _ h => h.2)) (fun _ h => h.1)); replace BK106 := Aside0.mk (KeepBut.blk hk (g' := gb106) (o := .cells #[.slice none 0 0, .slice none 0 0] 26 (0, 0)) (uf0_ BK106) NB106_0.out (by simp)); replace BK113 := Aside0.mk (KeepBut.blk hk (g' := gb113) (o := .cells #[.slice Ao30 y124.length co30, u114001] 26 (0, 0)) (uf0_ BK113) NB113_0.out (by simp)); replace HK := Aside0.mk (KeepBut.trans (qz14_) hk (.inl rfl)); replace HB := Aside0.mk (hb); replace HI0 := Aside0.mk (hi); (try clear hb); (try clear hk hi)) | ((with_reducible refine gate_builtin (b := .append) (xs := #[.tmp 54, .tmp 56]) rfl ?_); at_builtin; refine Kd.R_append (Kd.int .i64) w.heap.size rfl (.tmp 54) (.tmp 56) 23 3 (.int .i64 0) 8 rfl Try.underlying23 info3 rfl (by decide) (by omega) u9 x9_2 t138 [.int .i64 t138] (fun k_ => (w.heap.size ≤ k_) ∧ some k_ ≠ (.slice Ao30 y124.length co30 : Value).ownBlock) (fun _ => False) rfl rfl ?aP (fun _ hk => hk.elim) ?aF ?aO (Below.refl _ _) ?aS ?aL ?_; (case aP => exact rfl); (case aF => exact (fun k_ hk => ⟨(Nat.le_trans (keep_size (w := w) (g := g) (row := none) (qz14_)) hk), Kd.fresh' (Kd.R_lt (uf1_ HO_114000)) k_ hk⟩)); (case aO => exact (uf1_ HO_9)); (case aS => exact (keep_size (w := w) (g := g) (row := none) (qz14_))); (case aL => have := LMc41.out; omega); intro v141 w44 ho hb hg hat; rw [← Ny140.out] at ho; replace HO_114000 := Aside0.mk (Kd.R_after (ok := (fun k_ => (w.heap.size ≤ k_))) (uf1_ HO_114000) hg hat); replace HO_114001 := Aside0.mk (Kd.S_after (ok := (fun k_ => (w.heap.size ≤ k_) ∧ some k_ ≠ (.slice Ao30 y124.length co30 : Value).ownBlock)) (g126_) hg hat); replace BK106 := Aside0.mk (blk_grown (g := gb106) (o := .cells #[.slice none 0 0, .slice none 0 0] 26 (0, 0)) (uf0_ BK106) hg (Kd.R_ne HO_9.out BK106.out (by decide))); replace BK113 := Aside0.mk (blk_grown (g := gb113) (o := .cells #[.slice Ao30 y124.length co30, u114001] 26 (0, 0)) (uf0_ BK113) hg (Kd.R_ne HO_9.out BK113.out (by decide))); replace HB := Aside0.mk (below_weaken (qz44_) HL.out hb); replace HI0 := Aside0.mk (IsS79.grown (qz43_) hg (IsS79.own_ne HI0.out HO_9.out (by decide))); replace HK := Aside0.mk (KeepBut.trans (qz14_) (KeepBut.of_grown hg g) (Kd.R_base2 HO_9.out)); have HO142 := Aside0.mk (ho); clear HO_9; clear ho hb hg hat))
         go_roundg k2
         case measure => have := HK1.out; have := HK2.out; omega
         case rel => exact ⟨(y140), (wrap64 (x10_2 + 1)), (t139), (g3_), H', ⟨g34_⟩, ⟨uf1_ HO142⟩, ⟨uf1_ HO_114000⟩, ⟨g127_⟩, ⟨uf0_ BK106⟩, ⟨uf0_ BK113⟩, ⟨qz43_⟩, ⟨qz14_⟩, ⟨qz44_⟩⟩
        ·rw [if_neg c39] at H
         have c39b0 := decide_eq_false c39
         clear c39
         obtain ⟨c45, H⟩ := pos_ H
         have LMc45 := Aside0.mk c45
         clear c45
         obtain ⟨y143, hy143⟩ : ∃ y_ : List Int, y_ = (x9_2 ++ [0]) := ⟨_, rfl⟩
         replace H : (spec_l20Book.l1 k2 a1 (rd y107 t110) t114 x8_1 y143 (wrap64 (x10_2 + 1)) s0_0 t137 y124 x114001_1) = some (r1, r2, r3) := by first | (rw [hy143]; with_reducible exact H) | (have H2_ := (Option.bind_some _ _).symm.trans H; rw [hy143]; with_reducible exact H2_) | (have H2_ := (Option.bind_some _ _).symm.trans H; with_reducible exact H2_) | with_reducible exact H | (rw [hy143]; exact H) | exact H
         have Ny143 := Aside0.mk hy143
         clear hy143
         have H' := Aside0.mk H
         clear H
         go_wp2_with (first | (go_at_call 87; (with_reducible refine (spec_l20Rd_pick.calls k2 g s0_0 x1001_2 3 t136 t137 w0 _ ?side1 ?side2 A38.out).mono ?_); (case side1 => exact qz43_); (case side2 => exact qz44_); rintro e w46 ⟨rfl, hi, hb, hk⟩; replace HO_9 := Aside0.mk (Kd.R_mono (Kd.R_keep (IsS79.apart (show IsS79 w0 _ g s0_0 x1001_2 from qz43_) (uf1_ HO_9) (by decide)) hk (fun _ h => h.2)) (fun _ h => h.1)); replace HO_114000 := Aside0.mk (Kd.R_mono (Kd.R_keep (IsS79.apart (show IsS79 w0 _ g s0_0 x1001_2 from qz43_) (uf1_ HO_114000) (by decide)) hk (fun _ h => h.2)) (fun _ h => h.1)); replace HO_114001 := Aside0.mk (Kd.S_mono (Kd.S_keep (IsS79.apartS (show IsS79 w0 _ g s0_0 x1001_2 from qz43_) (uf2_ HO_114001) (by decide)) hk (fun _ h => h.2)) (fun _ h => h.1)); replace BK106 := Aside0.mk (KeepBut.blk hk (g' := gb106) (o := .cells #[.slice none 0 0, .slice none 0 0] 26 (0, 0)) (uf0_ BK106) NB106_0.out (by simp)); replace BK113 := Aside0.mk (KeepBut.blk hk (g' := gb113) (o := .cells #[.slice Ao30 y124.length co30, u114001] 26 (0, 0)) (uf0_ BK113) NB113_0.out (by simp)); replace HK := Aside0.mk (KeepBut.trans (qz14_) hk (.inl rfl)); replace HB := Aside0.mk (hb); replace HI0 := Aside0.mk (hi); (try clear hb); (try clear hk hi)) | ((with_reducible refine gate_builtin (b := .append) (xs := #[.tmp 54, .tmp 56]) rfl ?_); at_builtin; refine Kd.R_append (Kd.int .i64) w.heap.size rfl (.tmp 54) (.tmp 56) 23 3 (.int .i64 0) 8 rfl Try.underlying23 info3 rfl (by decide) (by omega) u9 x9_2 0 [.int .i64 0] (fun k_ => (w.heap.size ≤ k_) ∧ some k_ ≠ (.slice Ao30 y124.length co30 : Value).ownBlock) (fun _ => False) rfl rfl ?aP (fun _ hk => hk.elim) ?aF ?aO (Below.refl _ _) ?aS ?aL ?_; (case aP => exact rfl); (case aF => exact (fun k_ hk => ⟨(Nat.le_trans (keep_size (w := w) (g := g) (row := none) (qz14_)) hk), Kd.fresh' (Kd.R_lt (uf1_ HO_114000)) k_ hk⟩)); (case aO => exact (uf1_ HO_9)); (case aS => exact (keep_size (w := w) (g := g) (row := none) (qz14_))); (case aL => have := LMc45.out; omega); intro v144 w47 ho hb hg hat; rw [← Ny143.out] at ho; replace HO_114000 := Aside0.mk (Kd.R_after (ok := (fun k_ => (w.heap.size ≤ k_))) (uf1_ HO_114000) hg hat); replace HO_114001 := Aside0.mk (Kd.S_after (ok := (fun k_ => (w.heap.size ≤ k_) ∧ some k_ ≠ (.slice Ao30 y124.length co30 : Value).ownBlock)) (g126_) hg hat); replace BK106 := Aside0.mk (blk_grown (g := gb106) (o := .cells #[.slice none 0 0, .slice none 0 0] 26 (0, 0)) (uf0_ BK106) hg (Kd.R_ne HO_9.out BK106.out (by decide))); replace BK113 := Aside0.mk (blk_grown (g := gb113) (o := .cells #[.slice Ao30 y124.length co30, u114001] 26 (0, 0)) (uf0_ BK113) hg (Kd.R_ne HO_9.out BK113.out (by decide))); replace HB := Aside0.mk (below_weaken (qz44_) HL.out hb); replace HI0 := Aside0.mk (IsS79.grown (qz43_) hg (IsS79.own_ne HI0.out HO_9.out (by decide))); replace HK := Aside0.mk (KeepBut.trans (qz14_) (KeepBut.of_grown hg g) (Kd.R_base2 HO_9.out)); have HO145 := Aside0.mk (ho); clear HO_9; clear ho hb hg hat))
         go_roundg k2
         case measure => have := HK1.out; have := HK2.out; omega
         case rel => exact ⟨(y143), (wrap64 (x10_2 + 1)), (t137), (g3_), H', ⟨g34_⟩, ⟨uf1_ HO145⟩, ⟨uf1_ HO_114000⟩, ⟨g127_⟩, ⟨uf0_ BK106⟩, ⟨uf0_ BK113⟩, ⟨qz43_⟩, ⟨qz14_⟩, ⟨qz44_⟩⟩
      ·rw [if_neg c34] at H
       have c34b0 := decide_eq_false c34
       clear c34
       obtain ⟨c48, H⟩ := pos_ H
       have LMc48 := Aside0.mk c48
       clear c48
       obtain ⟨y130, hy130⟩ : ∃ y_ : List (List Int), y_ = (x114001_1 ++ [x9_2]) := ⟨_, rfl⟩
       replace H : (spec_l20Book.l0 k2 a1 (rd y107 t110) t114 (wrap64 (x8_1 + 1)) s0_0 x1001_2 y124 y130) = some (r1, r2, r3) := by first | (rw [hy130]; with_reducible exact H) | (have H2_ := (Option.bind_some _ _).symm.trans H; rw [hy130]; with_reducible exact H2_) | (have H2_ := (Option.bind_some _ _).symm.trans H; with_reducible exact H2_) | with_reducible exact H | (rw [hy130]; exact H) | exact H
       have Ny130 := Aside0.mk hy130
       clear hy130
       have H' := Aside0.mk H
       clear H
       have hnb49 := NB113_106.out
       have hnc49 := NB106_113.out
       have hnb50 := NB113_0.out
       have hnc50 := NB0_113.out
       obtain ⟨hcz51_0, hcz51_1, hfz51_0, hfz51_1⟩ := blk2_ BK113
       obtain ⟨Ao53, co53, eo53⟩ := Kd.R_slice HO_9.out
       subst eo53
       go_wp2_with (first | ((with_reducible refine gate_builtin (b := .append) (xs := #[.tmp 59, .tmp 61]) rfl ?_); at_builtin; refine Kd.S_append (Kd.slice 3 (Kd.int .i64)) w.heap.size rfl (.tmp 59) (.tmp 61) 24 23 (.slice none 0 0) 24 rfl Try.underlying24 info23 rfl (by decide) (by omega) u114001 x114001_1 x9_2 [.slice Ao53 x9_2.length co53] (fun k_ => (w.heap.size ≤ k_) ∧ some k_ ≠ (.slice Ao30 y124.length co30 : Value).ownBlock) (fun k_ => some k_ = (.slice Ao53 x9_2.length co53 : Value).ownBlock) rfl rfl ?aP (fun k_ hk_ => ((Kd.R_mono (ok' := fun k_ => ((fun k_ => (w.heap.size ≤ k_) ∧ some k_ ≠ (.slice Ao30 y124.length co30 : Value).ownBlock)) k_ ∧ some k_ ≠ (u114001 : Value).ownBlock) (Kd.R_apart' (HO_9.out) (Kd.S_typed HO_114001.out) (by decide)) (fun k_ hk => ⟨⟨hk.1.1, hk.1.2⟩, hk.2⟩))).1 k_ hk_.symm) ?aF ?aO (Below.refl _ _) ?aS ?aL ?_; (case aP => exact Kd.M_row (Kd.R_mono (Kd.R_tight rfl (Kd.R_mono (ok' := fun k_ => ((fun k_ => (w.heap.size ≤ k_) ∧ some k_ ≠ (.slice Ao30 y124.length co30 : Value).ownBlock)) k_ ∧ some k_ ≠ (u114001 : Value).ownBlock) (Kd.R_apart' (HO_9.out) (Kd.S_typed HO_114001.out) (by decide)) (fun k_ hk => ⟨⟨hk.1.1, hk.1.2⟩, hk.2⟩))) (fun _ h_ => h_))); (case aF => exact (fun k_ hk => ⟨(Nat.le_trans (keep_size (w := w) (g := g) (row := none) (qz14_)) hk), Kd.fresh' (Kd.R_lt (uf1_ HO_114000)) k_ hk⟩)); (case aO => exact (by (with_reducible repeat (first | apply Kd.S_alloc | apply Kd.S_drewN | apply Kd.S_drew)); exact Kd.S_mono HO_114001.out (fun k_ hk => ⟨⟨hk.1, hk.2.2⟩, fun e_ => hk.2.1 e_⟩))); (case aS => exact (keep_size (w := w) (g := g) (row := none) (qz14_))); (case aL => have := LMc48.out; omega); intro v131 w52 ho hb hg hat; rw [← Ny130.out] at ho; replace HO_114000 := Aside0.mk (Kd.R_over' (uf1_ HO_114000) (Kd.S_typed (uf2_ HO_114001)) (by decide) hg); replace BK106 := Aside0.mk (blk_grown (g := gb106) (o := .cells #[.slice none 0 0, .slice none 0 0] 26 (0, 0)) (uf0_ BK106) hg (Kd.S_ne HO_114001.out BK106.out (by decide))); replace BK113 := Aside0.mk (blk_grown (g := gb113) (o := .cells #[.slice Ao30 y124.length co30, u114001] 26 (0, 0)) (uf0_ BK113) hg (Kd.S_ne HO_114001.out BK113.out (by decide))); replace HB := Aside0.mk (below_weaken (qz44_) HL.out hb); replace HI0 := Aside0.mk (IsS79.grown (qz43_) hg (IsS79.own_neS HI0.out HO_114001.out (by decide))); replace HK := Aside0.mk (KeepBut.trans (qz14_) (KeepBut.of_grown hg g) (Kd.S_base2 HO_114001.out)); have HO132 := Aside0.mk (ho); clear HO_114001 HO_9; clear ho hb hg hat; obtain ⟨Ao54, co54, eo54⟩ := Kd.S_slice HO132.out; subst eo54; obtain ⟨hcz55_0, hcz55_1, hfz55_0, hfz55_1⟩ := blk2_ BK113))
       go_roundg k2
       case measure => have := HK1.out; have := HK2.out; omega
       case rel => exact ⟨(wrap64 (x8_1 + 1)), (x1001_2), (y124), (y130), (.slice Ao30 y124.length co30), (.slice Ao54 y130.length co54), (g3_), H', ⟨g34_⟩, ⟨by (with_reducible repeat (first | apply Kd.R_alloc | apply Kd.R_drewN | apply Kd.R_drew)); exact Kd.R_mono (Kd.R_far (p := ⟨gb113, 1, none⟩) (Kd.R_types HO_114000.out BK113.out (by decide)) (fun _ hk => hk.2) (.slice Ao54 y130.length co54)) (fun _ hk => hk.1.1)⟩, ⟨by (with_reducible repeat (first | apply Kd.S_alloc | apply Kd.S_drewN | apply Kd.S_drew)); exact Kd.S_mono (Kd.S_far (p := ⟨gb113, 1, none⟩) (Kd.S_types HO132.out BK113.out (by decide)) (fun _ hk => hk.2) (.slice Ao54 y130.length co54)) (fun _ hk => ⟨hk.1.1, hk.1.2⟩)⟩, ⟨by (with_reducible repeat (first | refine blk_drewN ?_ _ | refine blk_drew ?_ | refine blk_alloc ?_ _)); refine blk_far ?_ NB106_113.out _; (with_reducible repeat (first | refine blk_drewN ?_ _ | refine blk_drew ?_ | refine blk_alloc ?_ _)); exact BK106.out⟩, ⟨by (with_reducible repeat (first | refine blk_drewN ?_ _ | refine blk_drew ?_ | refine blk_alloc ?_ _)); refine blk_put (cs := #[.slice Ao30 y124.length co30, u114001]) ?_ 1 _ rfl; (with_reducible repeat (first | refine blk_drewN ?_ _ | refine blk_drew ?_ | refine blk_alloc ?_ _)); exact BK113.out⟩, ⟨qz43_⟩, ⟨qz14_⟩, ⟨qz44_⟩⟩
   ·rw [if_neg c17] at H
    have c17b0 := decide_eq_false c17
    clear c17
    replace H := Option.bind_eq_some_iff.mp H
    obtain ⟨⟨t146, t147⟩, A560, H⟩ := H
    replace H : (if t146 = true then ((spec_l20Rd_pick.f k1 s0_0 t147 4).bind fun bt148 => (if bt148.1 = 0 then (some (([] : List Int), ([] : List (List Int)), bt148.2)) else (if bt148.1 = 1 then (if 0 < (x114000_1.length : Int) then (some ((x114000_1.set (0 : Int).toNat (-1)), x114001_1, bt148.2)) else (none)) else (if bt148.1 = 2 then (if 0 < (x114001_1.length : Int) then (if 0 < ((rd_L2 x114001_1 0).length : Int) then (some (x114000_1, (x114001_1.set (0 : Int).toNat ((rd_L2 x114001_1 0).set (0 : Int).toNat 1)), bt148.2)) else (none)) else (none)) else (if 0 ≤ (wrap64 ((rd y107 t110) - 1)) then (if (wrap64 ((rd y107 t110) - 1)) < (x114001_1.length : Int) then (if 1 ≤ ((rd_L2 x114001_1 (wrap64 ((rd y107 t110) - 1))).length : Int) then (some (x114000_1, (x114001_1.set ((wrap64 ((rd y107 t110) - 1)) : Int).toNat ((rd_L2 x114001_1 (wrap64 ((rd y107 t110) - 1))).drop 1)), bt148.2)) else (none)) else (none)) else (none)))))) else (some (x114000_1, x114001_1, t147))) = some (r1, r2, r3) := H
    have A56 := Aside0.mk A560
    clear A560
    by_cases c57 : t146 = true
    ·subst c57
     replace H := ifp_ H
     replace H := Option.bind_eq_some_iff.mp H
     obtain ⟨⟨t148, t149⟩, A580, H⟩ := H
     replace H : (if t148 = 0 then (some (([] : List Int), ([] : List (List Int)), t149)) else (if t148 = 1 then (if 0 < (x114000_1.length : Int) then (some ((x114000_1.set (0 : Int).toNat (-1)), x114001_1, t149)) else (none)) else (if t148 = 2 then (if 0 < (x114001_1.length : Int) then (if 0 < ((rd_L2 x114001_1 0).length : Int) then (some (x114000_1, (x114001_1.set (0 : Int).toNat ((rd_L2 x114001_1 0).set (0 : Int).toNat 1)), t149)) else (none)) else (none)) else (if 0 ≤ (wrap64 ((rd y107 t110) - 1)) then (if (wrap64 ((rd y107 t110) - 1)) < (x114001_1.length : Int) then (if 1 ≤ ((rd_L2 x114001_1 (wrap64 ((rd y107 t110) - 1))).length : Int) then (some (x114000_1, (x114001_1.set ((wrap64 ((rd y107 t110) - 1)) : Int).toNat ((rd_L2 x114001_1 (wrap64 ((rd y107 t110) - 1))).drop 1)), t149)) else (none)) else (none)) else (none))))) = some (r1, r2, r3) := H
     have A58 := Aside0.mk A580
     clear A580
     by_cases c59 : t148 = 0
     ·rw [if_pos c59] at H
      have c59b0 : (t148 == 0) = true := beq_iff_eq.mpr c59
      have c59b1 : (t148 != 0) = false := bne_eq_false_iff_eq.mpr c59
      clear c59
      simp only [Option.some.injEq, Prod.mk.injEq] at H
      obtain ⟨rfl, rfl, rfl⟩ := H
      go_wp2_with (first | ((with_reducible refine gate_callee (f := 88) rfl ?_); refine goesL_ (some 66) rfl rfl Try.func88 k_ rfl #[.pointer (some ⟨g, 0, none⟩), .int .i64 a1] rfl (g2_) ?_; (with_reducible refine (spec_l20Rd_odd.calls k1 g s0_0 x1001_1 a1 true t147 w0 _ ?side1 ?side2 A56.out).mono ?_); (case side1 => exact qz43_); (case side2 => exact qz44_); rintro e w60 ⟨rfl, hi, hb, hk⟩; refine ⟨_, rfl, ?_⟩; replace HO_114000 := Aside0.mk (Kd.R_mono (Kd.R_keep (IsS79.apart (show IsS79 w0 _ g s0_0 x1001_1 from qz43_) (uf1_ HO_114000) (by decide)) hk (fun _ h => h.2)) (fun _ h => h.1)); replace HO_114001 := Aside0.mk (Kd.S_mono (Kd.S_keep (IsS79.apartS (show IsS79 w0 _ g s0_0 x1001_1 from qz43_) (uf2_ HO_114001) (by decide)) hk (fun _ h => h.2)) (fun _ h => h.1)); replace BK106 := Aside0.mk (KeepBut.blk hk (g' := gb106) (o := .cells #[.slice none 0 0, .slice none 0 0] 26 (0, 0)) (uf0_ BK106) NB106_0.out (by simp)); replace BK113 := Aside0.mk (KeepBut.blk hk (g' := gb113) (o := .cells #[u114000, u114001] 26 (0, 0)) (uf0_ BK113) NB113_0.out (by simp)); replace HK := Aside0.mk (KeepBut.trans (qz14_) hk (.inl rfl)); replace HB := Aside0.mk (hb); replace HI0 := Aside0.mk (hi); (try clear hb); (try clear hk hi)) | ((with_reducible refine gate_callee (f := 87) rfl ?_); refine goesL_ (some 68) rfl rfl Try.func87 k_ rfl #[.pointer (some ⟨g, 0, none⟩), .int .i64 4] rfl (g2_) ?_; (with_reducible refine (spec_l20Rd_pick.calls k1 g s0_0 t147 4 t148 t149 w0 _ ?side1 ?side2 A58.out).mono ?_); (case side1 => exact qz43_); (case side2 => exact qz44_); rintro e w61 ⟨rfl, hi, hb, hk⟩; refine ⟨_, rfl, ?_⟩; replace HO_114000 := Aside0.mk (Kd.R_mono (Kd.R_keep (IsS79.apart (show IsS79 w0 _ g s0_0 t147 from qz43_) (uf1_ HO_114000) (by decide)) hk (fun _ h => h.2)) (fun _ h => h.1)); replace HO_114001 := Aside0.mk (Kd.S_mono (Kd.S_keep (IsS79.apartS (show IsS79 w0 _ g s0_0 t147 from qz43_) (uf2_ HO_114001) (by decide)) hk (fun _ h => h.2)) (fun _ h => h.1)); replace BK106 := Aside0.mk (KeepBut.blk hk (g' := gb106) (o := .cells #[.slice none 0 0, .slice none 0 0] 26 (0, 0)) (uf0_ BK106) NB106_0.out (by simp)); replace BK113 := Aside0.mk (KeepBut.blk hk (g' := gb113) (o := .cells #[u114000, u114001] 26 (0, 0)) (uf0_ BK113) NB113_0.out (by simp)); replace HK := Aside0.mk (KeepBut.trans (qz14_) hk (.inl rfl)); replace HB := Aside0.mk (hb); replace HI0 := Aside0.mk (hi); (try clear hb); (try clear hk hi); have hnb62 := NB106_113.out; have hnc62 := NB113_106.out; have hnb63 := NB106_0.out; have hnc63 := NB0_106.out; obtain ⟨hcz64_0, hcz64_1, hfz64_0, hfz64_1⟩ := blk2_ BK106))
      refine bodyPost_ret (results_cell_row rfl _ _ gb106 26 #[.slice none 0 0, .slice none 0 0] (0, 0) _ rfl (by (with_reducible repeat (first | refine blk_drewN ?_ _ | refine blk_drew ?_ | refine blk_alloc ?_ _)); refine blk_put (cs := #[.slice none 0 0, .slice none 0 0]) ?_ 1 _ rfl; (with_reducible repeat (first | refine blk_drewN ?_ _ | refine blk_drew ?_ | refine blk_alloc ?_ _)); refine blk_put (cs := #[.slice none 0 0, .slice none 0 0]) ?_ 0 _ rfl; (with_reducible repeat (first | refine blk_drewN ?_ _ | refine blk_drew ?_ | refine blk_alloc ?_ _)); exact BK106.out) Try.underlying26 rfl (g0_)) rfl ?_
      exact ⟨_, _, g4_, g29_, Kd.V_nil _ _ _ _ _, qz43_, qz44_, qz14_⟩
     ·rw [if_neg c59] at H
      have c59b0 : (t148 == 0) = false := beq_eq_false_iff_ne.mpr c59
      have c59b1 : (t148 != 0) = true := bne_iff_ne.mpr c59
      by_cases c65 : t148 = 1
      ·rw [if_pos c65] at H
       have c65b0 : (t148 == 1) = true := beq_iff_eq.mpr c65
       have c65b1 : (t148 != 1) = false := bne_eq_false_iff_eq.mpr c65
       clear c65
       obtain ⟨c66, H⟩ := pos_ H
       have c66b0 := decide_eq_true c66
       have c66b1 : decide (0 < x114000_1.length) = true := decide_eq_true (by omega)
       clear c66
       obtain ⟨y150, hy150⟩ : ∃ y_ : List Int, y_ = (x114000_1.set (0 : Int).toNat (-1)) := ⟨_, rfl⟩
       replace H : (some (y150, x114001_1, t149)) = some (r1, r2, r3) := by first | (rw [hy150]; with_reducible exact H) | (have H2_ := (Option.bind_some _ _).symm.trans H; rw [hy150]; with_reducible exact H2_) | (have H2_ := (Option.bind_some _ _).symm.trans H; with_reducible exact H2_) | with_reducible exact H | (rw [hy150]; exact H) | exact H
       have Ny150 := Aside0.mk hy150
       clear hy150
       simp only [Option.some.injEq, Prod.mk.injEq] at H
       obtain ⟨rfl, rfl, rfl⟩ := H
       go_wp2_with (first | ((with_reducible refine gate_callee (f := 88) rfl ?_); refine goesL_ (some 66) rfl rfl Try.func88 k_ rfl #[.pointer (some ⟨g, 0, none⟩), .int .i64 a1] rfl (g2_) ?_; (with_reducible refine (spec_l20Rd_odd.calls k1 g s0_0 x1001_1 a1 true t147 w0 _ ?side1 ?side2 A56.out).mono ?_); (case side1 => exact qz43_); (case side2 => exact qz44_); rintro e w68 ⟨rfl, hi, hb, hk⟩; refine ⟨_, rfl, ?_⟩; replace HO_114000 := Aside0.mk (Kd.R_mono (Kd.R_keep (IsS79.apart (show IsS79 w0 _ g s0_0 x1001_1 from qz43_) (uf1_ HO_114000) (by decide)) hk (fun _ h => h.2)) (fun _ h => h.1)); replace HO_114001 := Aside0.mk (Kd.S_mono (Kd.S_keep (IsS79.apartS (show IsS79 w0 _ g s0_0 x1001_1 from qz43_) (uf2_ HO_114001) (by decide)) hk (fun _ h => h.2)) (fun _ h => h.1)); replace BK106 := Aside0.mk (KeepBut.blk hk (g' := gb106) (o := .cells #[.slice none 0 0, .slice none 0 0] 26 (0, 0)) (uf0_ BK106) NB106_0.out (by simp)); replace BK113 := Aside0.mk (KeepBut.blk hk (g' := gb113) (o := .cells #[u114000, u114001] 26 (0, 0)) (uf0_ BK113) NB113_0.out (by simp)); replace HK := Aside0.mk (KeepBut.trans (qz14_) hk (.inl rfl)); replace HB := Aside0.mk (hb); replace HI0 := Aside0.mk (hi); (try clear hb); (try clear hk hi)) | ((with_reducible refine gate_callee (f := 87) rfl ?_); refine goesL_ (some 68) rfl rfl Try.func87 k_ rfl #[.pointer (some ⟨g, 0, none⟩), .int .i64 4] rfl (g2_) ?_; (with_reducible refine (spec_l20Rd_pick.calls k1 g s0_0 t147 4 t148 t149 w0 _ ?side1 ?side2 A58.out).mono ?_); (case side1 => exact qz43_); (case side2 => exact qz44_); rintro e w69 ⟨rfl, hi, hb, hk⟩; refine ⟨_, rfl, ?_⟩; replace HO_114000 := Aside0.mk (Kd.R_mono (Kd.R_keep (IsS79.apart (show IsS79 w0 _ g s0_0 t147 from qz43_) (uf1_ HO_114000) (by decide)) hk (fun _ h => h.2)) (fun _ h => h.1)); replace HO_114001 := Aside0.mk (Kd.S_mono (Kd.S_keep (IsS79.apartS (show IsS79 w0 _ g s0_0 t147 from qz43_) (uf2_ HO_114001) (by decide)) hk (fun _ h => h.2)) (fun _ h => h.1)); replace BK106 := Aside0.mk (KeepBut.blk hk (g' := gb106) (o := .cells #[.slice none 0 0, .slice none 0 0] 26 (0, 0)) (uf0_ BK106) NB106_0.out (by simp)); replace BK113 := Aside0.mk (KeepBut.blk hk (g' := gb113) (o := .cells #[u114000, u114001] 26 (0, 0)) (uf0_ BK113) NB113_0.out (by simp)); replace HK := Aside0.mk (KeepBut.trans (qz14_) hk (.inl rfl)); replace HB := Aside0.mk (hb); replace HI0 := Aside0.mk (hi); (try clear hb); (try clear hk hi); have hnb70 := NB113_106.out; have hnc70 := NB106_113.out; have hnb71 := NB113_0.out; have hnc71 := NB0_113.out; obtain ⟨hcz72_0, hcz72_1, hfz72_0, hfz72_1⟩ := blk2_ BK113; have p67 : 0 ≤ (0 : Int) := (by omega); have q67 : (0 : Int) < ((x114000_1.length : Int) : Int) := of_decide_eq_true (g1_); have qi67 : (0 < x114000_1.length) = True := eq_true (by omega); obtain ⟨go67, co67, eo67, gb67, gl67, cl67, HG67⟩ := Kd.R_form HO_114000.out (by omega); (first | cases eo67 | (injection eo67 with ea_ en_ ec_; (first | subst ea_ | (injection ea_ with ea_; subst ea_)); subst ec_; clear en_)); have GB67 := Aside0.mk gb67; have GG67 := Aside0.mk HG67; clear gb67 gl67 HG67; obtain ⟨hx67_0, hf67_0⟩ := Kd.R_celln 0 HO_114000.out (0 : Int) p67 q67; (try rw [show ((0 : Int)).toNat = 0 from rfl] at hx67_0); (try simp only [Nat.reduceMul, Nat.zero_mul, Nat.zero_add, Nat.reduceAdd] at hx67_0); (try rw [show ((0 : Int)).toNat = 0 from rfl] at hf67_0); (try simp only [Nat.reduceMul, Nat.zero_mul, Nat.zero_add, Nat.reduceAdd] at hf67_0); replace p67 := eq_true p67; replace q67 := eq_true q67; obtain ⟨hy73_, hz73_⟩ := Kd.R_celln 0 HO_114000.out (0 : Int) (by omega) (of_decide_eq_true (g1_)); (try simp only [Int.reduceToNat, Int.toNat_zero, Int.toNat_ofNat, Nat.reduceMul, Nat.zero_mul, Nat.zero_add] at hy73_ hz73_); (try rw [show ((0 : Int)).toNat = 0 from rfl] at hy73_); (try rw [show ((0 : Int)).toNat = 0 from rfl] at hz73_); have HP73 := Kd.R_putg HO_114000.out (0 : Int) (-1)) | ((with_reducible refine gate_store (t := 3) (p := 88) rfl ?_); refine store_event (t := 3) (p := 88) (v := ?vo_w74) (w1 := (w69.setCell ⟨go67, (0 : Int).toNat, none⟩ (.int .i64 (-1)))) ?hg ?ho ?hn ?hr ?_; (case ho => rfl); (case hg => rfl); (case hn => rfl); (case hr => first | (go_simp; done) | (go_simp; rfl)); intro w74 hw; have hg : w69.grownBy w74 (some go67) := (by rw [hw]; exact HP73.2); have hp_ : Kd.R (Kd.int .i64) 3 w74 w.heap.size (fun k_ => (w.heap.size ≤ k_)) (.slice (some ⟨go67, 0, none⟩) x114000_1.length co67) y150 := (by rw [hw, Ny150.out]; exact HP73.1); clear HP73; replace HO_114001 := Aside0.mk (Kd.S_after (v := (.slice (some ⟨go67, 0, none⟩) x114000_1.length co67)) (v1 := (.slice (some ⟨go67, 0, none⟩) x114000_1.length co67)) (ok := (fun k_ => (w.heap.size ≤ k_))) (uf2_ HO_114001) hg (.inl rfl)); replace BK106 := Aside0.mk (blk_grown (g := gb106) (o := .cells #[.slice none 0 0, .slice none 0 0] 26 (0, 0)) (uf0_ BK106) hg (Kd.R_ne HO_114000.out BK106.out (by decide))); replace BK113 := Aside0.mk (blk_grown (g := gb113) (o := .cells #[.slice (some ⟨go67, 0, none⟩) x114000_1.length co67, u114001] 26 (0, 0)) (uf0_ BK113) hg (Kd.R_ne HO_114000.out BK113.out (by decide))); replace HI0 := Aside0.mk (IsS79.grown (qz43_) hg (IsS79.own_ne HI0.out HO_114000.out (by decide))); replace HB := Aside0.mk ((by rw [hw]; exact below_set (HB.out) (Nat.le_trans HL.out GB67.out) : Below w0.heap.size w0 w74)); replace HK := Aside0.mk (KeepBut.trans (qz14_) (KeepBut.of_grown hg g) (Kd.R_base2 HO_114000.out)); replace HO_114000 := Aside0.mk (hp_); clear hg hw hp_; obtain ⟨hcz75_0, hcz75_1, hfz75_0, hfz75_1⟩ := blk2_ BK113; have hnb76 := NB106_0.out; have hnc76 := NB0_106.out; obtain ⟨hcz77_0, hcz77_1, hfz77_0, hfz77_1⟩ := blk2_ BK106; obtain ⟨Ao78, co78, eo78⟩ := Kd.S_slice HO_114001.out; subst eo78))
       refine bodyPost_ret (results_cell_row rfl _ _ gb106 26 #[.slice (some ⟨go67, 0, none⟩) x114000_1.length co67, .slice Ao78 x114001_1.length co78] (0, 0) _ rfl (by (with_reducible repeat (first | refine blk_drewN ?_ _ | refine blk_drew ?_ | refine blk_alloc ?_ _)); refine blk_put (cs := #[.slice (some ⟨go67, 0, none⟩) x114000_1.length co67, .slice none 0 0]) ?_ 1 _ rfl; (with_reducible repeat (first | refine blk_drewN ?_ _ | refine blk_drew ?_ | refine blk_alloc ?_ _)); refine blk_put (cs := #[.slice none 0 0, .slice none 0 0]) ?_ 0 _ rfl; (with_reducible repeat (first | refine blk_drewN ?_ _ | refine blk_drew ?_ | refine blk_alloc ?_ _)); exact BK106.out) Try.underlying26 rfl (g0_)) rfl ?_
       exact ⟨_, _, g4_, by (with_reducible repeat (first | apply Kd.R_alloc | apply Kd.R_drewN | apply Kd.R_drew)); exact Kd.R_mono (Kd.R_far (p := ⟨gb106, 1, none⟩) (Kd.R_far (p := ⟨gb106, 0, none⟩) (Kd.R_types HO_114000.out BK106.out (by decide)) (fun _ hk => hk.2) (.slice (some ⟨go67, 0, none⟩) x114000_1.length co67)) (fun _ hk => hk.2) (.slice Ao78 x114001_1.length co78)) (fun _ hk => hk.1), Kd.S_V (by (with_reducible repeat (first | apply Kd.S_alloc | apply Kd.S_drewN | apply Kd.S_drew)); exact Kd.S_mono (Kd.S_far (p := ⟨gb106, 1, none⟩) (Kd.S_far (p := ⟨gb106, 0, none⟩) (Kd.S_types HO_114001.out BK106.out (by decide)) (fun _ hk => hk.2) (.slice (some ⟨go67, 0, none⟩) x114000_1.length co67)) (fun _ hk => hk.2) (.slice Ao78 x114001_1.length co78)) (fun _ hk => ⟨hk.1.1, hk.1.2⟩)), qz43_, qz44_, qz14_⟩
      ·rw [if_neg c65] at H
       have c65b0 : (t148 == 1) = false := beq_eq_false_iff_ne.mpr c65
       have c65b1 : (t148 != 1) = true := bne_iff_ne.mpr c65
       by_cases c79 : t148 = 2
       ·rw [if_pos c79] at H
        have c79b0 : (t148 == 2) = true := beq_iff_eq.mpr c79
        have c79b1 : (t148 != 2) = false := bne_eq_false_iff_eq.mpr c79
        clear c79
        obtain ⟨c80, H⟩ := pos_ H
        have c80b0 := decide_eq_true c80
        have c80b1 : decide (0 < x114001_1.length) = true := decide_eq_true (by omega)
        clear c80
        obtain ⟨c81, H⟩ := pos_ H
        have c81b0 := decide_eq_true c81
        have c81b1 : decide (0 < (rd_L2 x114001_1 0).length) = true := decide_eq_true (by omega)
        clear c81
        obtain ⟨y152, hy152⟩ : ∃ y_ : List Int, y_ = ((rd_L2 x114001_1 0).set (0 : Int).toNat 1) := ⟨_, rfl⟩
        replace H : (some (x114000_1, (x114001_1.set (0 : Int).toNat y152), t149)) = some (r1, r2, r3) := by first | (rw [hy152]; with_reducible exact H) | (have H2_ := (Option.bind_some _ _).symm.trans H; rw [hy152]; with_reducible exact H2_) | (have H2_ := (Option.bind_some _ _).symm.trans H; with_reducible exact H2_) | with_reducible exact H | (rw [hy152]; exact H) | exact H
        have Ny152 := Aside0.mk hy152
        clear hy152
        obtain ⟨y154, hy154⟩ : ∃ y_ : List (List Int), y_ = (x114001_1.set (0 : Int).toNat y152) := ⟨_, rfl⟩
        replace H : (some (x114000_1, y154, t149)) = some (r1, r2, r3) := by first | (rw [hy154]; with_reducible exact H) | (have H2_ := (Option.bind_some _ _).symm.trans H; rw [hy154]; with_reducible exact H2_) | (have H2_ := (Option.bind_some _ _).symm.trans H; with_reducible exact H2_) | with_reducible exact H | (rw [hy154]; exact H) | exact H
        have Ny154 := Aside0.mk hy154
        clear hy154
        simp only [Option.some.injEq, Prod.mk.injEq] at H
        obtain ⟨rfl, rfl, rfl⟩ := H
        go_wp2_with (first | ((with_reducible refine gate_callee (f := 88) rfl ?_); refine goesL_ (some 66) rfl rfl Try.func88 k_ rfl #[.pointer (some ⟨g, 0, none⟩), .int .i64 a1] rfl (g2_) ?_; (with_reducible refine (spec_l20Rd_odd.calls k1 g s0_0 x1001_1 a1 true t147 w0 _ ?side1 ?side2 A56.out).mono ?_); (case side1 => exact qz43_); (case side2 => exact qz44_); rintro e w83 ⟨rfl, hi, hb, hk⟩; refine ⟨_, rfl, ?_⟩; replace HO_114000 := Aside0.mk (Kd.R_mono (Kd.R_keep (IsS79.apart (show IsS79 w0 _ g s0_0 x1001_1 from qz43_) (uf1_ HO_114000) (by decide)) hk (fun _ h => h.2)) (fun _ h => h.1)); replace HO_114001 := Aside0.mk (Kd.S_mono (Kd.S_keep (IsS79.apartS (show IsS79 w0 _ g s0_0 x1001_1 from qz43_) (uf2_ HO_114001) (by decide)) hk (fun _ h => h.2)) (fun _ h => h.1)); replace BK106 := Aside0.mk (KeepBut.blk hk (g' := gb106) (o := .cells #[.slice none 0 0, .slice none 0 0] 26 (0, 0)) (uf0_ BK106) NB106_0.out (by simp)); replace BK113 := Aside0.mk (KeepBut.blk hk (g' := gb113) (o := .cells #[u114000, u114001] 26 (0, 0)) (uf0_ BK113) NB113_0.out (by simp)); replace HK := Aside0.mk (KeepBut.trans (qz14_) hk (.inl rfl)); replace HB := Aside0.mk (hb); replace HI0 := Aside0.mk (hi); (try clear hb); (try clear hk hi)) | ((with_reducible refine gate_callee (f := 87) rfl ?_); refine goesL_ (some 68) rfl rfl Try.func87 k_ rfl #[.pointer (some ⟨g, 0, none⟩), .int .i64 4] rfl (g2_) ?_; (with_reducible refine (spec_l20Rd_pick.calls k1 g s0_0 t147 4 t148 t149 w0 _ ?side1 ?side2 A58.out).mono ?_); (case side1 => exact qz43_); (case side2 => exact qz44_); rintro e w84 ⟨rfl, hi, hb, hk⟩; refine ⟨_, rfl, ?_⟩; replace HO_114000 := Aside0.mk (Kd.R_mono (Kd.R_keep (IsS79.apart (show IsS79 w0 _ g s0_0 t147 from qz43_) (uf1_ HO_114000) (by decide)) hk (fun _ h => h.2)) (fun _ h => h.1)); replace HO_114001 := Aside0.mk (Kd.S_mono (Kd.S_keep (IsS79.apartS (show IsS79 w0 _ g s0_0 t147 from qz43_) (uf2_ HO_114001) (by decide)) hk (fun _ h => h.2)) (fun _ h => h.1)); replace BK106 := Aside0.mk (KeepBut.blk hk (g' := gb106) (o := .cells #[.slice none 0 0, .slice none 0 0] 26 (0, 0)) (uf0_ BK106) NB106_0.out (by simp)); replace BK113 := Aside0.mk (KeepBut.blk hk (g' := gb113) (o := .cells #[u114000, u114001] 26 (0, 0)) (uf0_ BK113) NB113_0.out (by simp)); replace HK := Aside0.mk (KeepBut.trans (qz14_) hk (.inl rfl)); replace HB := Aside0.mk (hb); replace HI0 := Aside0.mk (hi); (try clear hb); (try clear hk hi); have hnb85 := NB113_106.out; have hnc85 := NB106_113.out; have hnb86 := NB113_0.out; have hnc86 := NB0_113.out; obtain ⟨hcz87_0, hcz87_1, hfz87_0, hfz87_1⟩ := blk2_ BK113; obtain ⟨Ao88, co88, eo88⟩ := Kd.S_slice HO_114001.out; subst eo88; have p151 : 0 ≤ (0 : Int) := (by omega); have q151 : 0 < (x114001_1.length : Int) := of_decide_eq_true (g1_); obtain ⟨ad151, A151_0, c151_0, e151, hx151_0, hl151_0, hi151_0⟩ := at_L2 (Kd.S_reads' HO_114001.out).2.2 0 p151 q151; cases e151; obtain ⟨ce151, hce151, hMe151, hcc151⟩ := Kd.S_get HO_114001.out [] 0 p151 (by first | exact q151 | exact of_decide_eq_true (g1_) | (have e_ := (Kd.S_reads' HO_114001.out).1; omega)); obtain ⟨ve151_0, rfl, ge151_0⟩ := hMe151; have hv151_0 := hcc151 0 _ rfl; rw [Nat.add_zero, show ((Kd.slice 3 (Kd.int .i64))).sz = 1 from rfl, Nat.mul_one] at hv151_0; replace hv151_0 := Option.some.inj (hv151_0.symm.trans hx151_0); rw [hv151_0] at ge151_0; have HL151_0 := Aside0.mk (show Kd.R (Kd.int .i64) 3 _ _ _ _ (rd_L2 x114001_1 0) from ge151_0); clear hv151_0 ge151_0; have HX151_0 := Aside0.mk hx151_0; clear hcc151 hce151; have qi151 : (0 < x114001_1.length) = True := eq_true (by omega); (try rw [show ((0 : Int)).toNat = 0 from rfl] at hx151_0); (try rw [Addr.add_zero'] at hx151_0); have HR151_0 := Aside0.mk hi151_0; have HC151_0 := Aside0.mk hl151_0; clear hi151_0 hl151_0; replace p151 := eq_true p151; replace q151 := eq_true q151; have p82 : 0 ≤ (0 : Int) := (by omega); have q82 : (0 : Int) < (((rd_L2 x114001_1 0).length : Int) : Int) := of_decide_eq_true (g1_); have qi82 : (0 < (rd_L2 x114001_1 0).length) = True := eq_true (by omega); obtain ⟨go82, co82, eo82, gb82, gl82, cl82, HG82⟩ := Kd.R_form HL151_0.out (by omega); (first | cases eo82 | (injection eo82 with ea_ en_ ec_; (first | subst ea_ | (injection ea_ with ea_; subst ea_)); subst ec_; clear en_)); have GB82 := Aside0.mk gb82; have GG82 := Aside0.mk HG82; clear gb82 gl82 HG82; obtain ⟨hx82_0, hf82_0⟩ := Kd.R_celln 0 HL151_0.out (0 : Int) p82 q82; (try rw [show ((0 : Int)).toNat = 0 from rfl] at hx82_0); (try simp only [Nat.reduceMul, Nat.zero_mul, Nat.zero_add, Nat.reduceAdd] at hx82_0); (try rw [show ((0 : Int)).toNat = 0 from rfl] at hf82_0); (try simp only [Nat.reduceMul, Nat.zero_mul, Nat.zero_add, Nat.reduceAdd] at hf82_0); replace p82 := eq_true p82; replace q82 := eq_true q82; have hq89 : (0 : Int) < (x114001_1.length : Int) := (by have h_ : (0 : Int) < ((x114001_1.length : Int) : Int) := of_decide_eq_true (g1_); first | exact h_ | (have e_ := (Kd.S_reads' HO_114001.out).1; omega) | simpa only [List.length_set, List.length_set] using h_); obtain ⟨oki89, ce89, hcl89, hM89, hcc89, hok89, hbk89⟩ := Kd.S_borrow HO_114001.out [] (0 : Int) (by omega) hq89; obtain ⟨ve89_0, rfl, ge89_0⟩ := hM89; have hv89 := hcc89 0 _ rfl; rw [Nat.add_zero, show ((Kd.slice 3 (Kd.int .i64))).sz = 1 from rfl, Nat.mul_one] at hv89; replace hv89 := Option.some.inj (hv89.symm.trans HX151_0.out); subst hv89; clear hcc89 hcl89; replace ge89_0 := (show Kd.R (Kd.int .i64) 3 _ _ _ _ (rd_L2 x114001_1 0) from ge89_0); have HP89 := Kd.R_putg ge89_0 (0 : Int) 1) | ((with_reducible refine gate_store (t := 3) (p := 95) rfl ?_); refine store_event (t := 3) (p := 95) (v := ?vo_w90) (w1 := (w84.setCell ⟨go82, 0, none⟩ (.int .i64 1))) ?hg ?ho ?hn ?hr ?_; (case ho => rfl); (case hg => rfl); (case hn => rfl); (case hr => first | (go_simp; done) | (go_simp; rfl)); intro w90 hw; have hg : w84.grownBy w90 (some go82) := (by rw [hw]; exact HP89.2); have hz_ : Kd.R (Kd.int .i64) 3 w90 w.heap.size oki89 (.slice (some ⟨go82, 0, none⟩) (rd_L2 x114001_1 0).length c151_0) y152 := (by rw [hw, Ny152.out]; exact HP89.1); have hp_ : Kd.S (Kd.slice 3 (Kd.int .i64)) 23 w90 w.heap.size (fun k_ => (w.heap.size ≤ k_) ∧ some k_ ≠ (u114000 : Value).ownBlock) (.slice (some ad151) x114001_1.length co88) y154 := (by rw [Ny154.out]; exact hbk89 hg (fun k_ e_ => by injection e_ with e_; subst e_; exact ge89_0.1 _ rfl) (Kd.M_row hz_)); have hm_ := Kd.R_mono hz_ hok89; clear HP89 hbk89; replace HO_114000 := Aside0.mk (Kd.R_grown1 (uf1_ HO_114000) rfl hg ((HL151_0.out.1 _ rfl).1.2)); replace HO_114001 := Aside0.mk (hp_); replace BK106 := Aside0.mk (blk_grown (g := gb106) (o := .cells #[.slice none 0 0, .slice none 0 0] 26 (0, 0)) (uf0_ BK106) hg (Kd.R_ne HL151_0.out BK106.out (by decide))); replace BK113 := Aside0.mk (blk_grown (g := gb113) (o := .cells #[u114000, .slice (some ad151) x114001_1.length co88] 26 (0, 0)) (uf0_ BK113) hg (Kd.R_ne HL151_0.out BK113.out (by decide))); replace HI0 := Aside0.mk (IsS79.grown (qz43_) hg (IsS79.own_ne HI0.out HL151_0.out (by decide))); replace HB := Aside0.mk ((by rw [hw]; exact below_set (HB.out) (Nat.le_trans HL.out GB82.out) : Below w0.heap.size w0 w90)); replace HK := Aside0.mk (KeepBut.trans (qz14_) (KeepBut.of_grown hg g) (Kd.R_base2 HL151_0.out)); have HL155 := Aside0.mk (hm_); have HC153 := Aside0.mk ((Kd.R_reads' hm_).2.1); clear HL151_0; clear hg hw hp_ hz_ hm_ hok89; obtain ⟨hcz91_0, hcz91_1, hfz91_0, hfz91_1⟩ := blk2_ BK113; obtain ⟨Ao92, co92, eo92⟩ := Kd.R_slice HO_114000.out; subst eo92; have hnb93 := NB106_0.out; have hnc93 := NB0_106.out; obtain ⟨hcz94_0, hcz94_1, hfz94_0, hfz94_1⟩ := blk2_ BK106))
        refine bodyPost_ret (results_cell_row rfl _ _ gb106 26 #[.slice Ao92 x114000_1.length co92, .slice (some ad151) x114001_1.length co88] (0, 0) _ rfl (by (with_reducible repeat (first | refine blk_drewN ?_ _ | refine blk_drew ?_ | refine blk_alloc ?_ _)); refine blk_put (cs := #[.slice Ao92 x114000_1.length co92, .slice none 0 0]) ?_ 1 _ rfl; (with_reducible repeat (first | refine blk_drewN ?_ _ | refine blk_drew ?_ | refine blk_alloc ?_ _)); refine blk_put (cs := #[.slice none 0 0, .slice none 0 0]) ?_ 0 _ rfl; (with_reducible repeat (first | refine blk_drewN ?_ _ | refine blk_drew ?_ | refine blk_alloc ?_ _)); exact BK106.out) Try.underlying26 rfl (g0_)) rfl ?_
        exact ⟨_, _, g4_, by (with_reducible repeat (first | apply Kd.R_alloc | apply Kd.R_drewN | apply Kd.R_drew)); exact Kd.R_mono (Kd.R_far (p := ⟨gb106, 1, none⟩) (Kd.R_far (p := ⟨gb106, 0, none⟩) (Kd.R_types HO_114000.out BK106.out (by decide)) (fun _ hk => hk.2) (.slice Ao92 x114000_1.length co92)) (fun _ hk => hk.2) (.slice (some ad151) x114001_1.length co88)) (fun _ hk => hk.1), Kd.S_V (by (with_reducible repeat (first | apply Kd.S_alloc | apply Kd.S_drewN | apply Kd.S_drew)); exact Kd.S_mono (Kd.S_far (p := ⟨gb106, 1, none⟩) (Kd.S_far (p := ⟨gb106, 0, none⟩) (Kd.S_types HO_114001.out BK106.out (by decide)) (fun _ hk => hk.2) (.slice Ao92 x114000_1.length co92)) (fun _ hk => hk.2) (.slice (some ad151) x114001_1.length co88)) (fun _ hk => ⟨hk.1.1, hk.1.2⟩)), qz43_, qz44_, qz14_⟩
       ·rw [if_neg c79] at H
        have n_ : Kd.N (Kd.slice 3 (Kd.int .i64)) 23 wr w.heap.size (fun k_ => (w.heap.size ≤ k_) ∧ some k_ ≠ (u114000 : Value).ownBlock ∧ k_ ≠ gb106 ∧ k_ ≠ gb113 ∧ k_ ≠ g) u114001 x114001_1 := Kd.N_mono (Kd.S_N (IsS79.apartS HI0.out (Kd.S_types (Kd.S_types HO_114001.out BK106.out (by decide)) BK113.out (by decide)) (by decide))) (fun k_ hk => ⟨hk.1.1.1.1, hk.1.1.1.2, hk.1.1.2, hk.1.2, hk.2⟩)
        clear HO_114001
        have HO_114001 := Aside0.mk n_
        clear n_
        have c79b0 : (t148 == 2) = false := beq_eq_false_iff_ne.mpr c79
        have c79b1 : (t148 != 2) = true := bne_iff_ne.mpr c79
        obtain ⟨ji80, hji80⟩ : ∃ j_ : Int, (wrap64 ((rd y107 t110) - 1)) = j_ := ⟨_, rfl⟩
        replace H : (if 0 ≤ (ji80) then (if (ji80) < (x114001_1.length : Int) then (if 1 ≤ ((rd_L2 x114001_1 (ji80)).length : Int) then (some (x114000_1, (x114001_1.set ((ji80) : Int).toNat ((rd_L2 x114001_1 (ji80)).drop 1)), t149)) else (none)) else (none)) else (none)) = some (r1, r2, r3) := by first | (rw [hji80] at H; exact H) | (simp only [hji80] at H ⊢; exact H)
        (try rw [hji80] at A56)
        (try rw [hji80] at A58)
        have hji80w : (IntKind.i64.wrap ((rd y107 t110) - 1)) = ji80 := (i64_w _).trans hji80
        obtain ⟨c81, H⟩ := pos_ H
        have c81b0 := decide_eq_true c81
        clear c81
        obtain ⟨c82, H⟩ := pos_ H
        have c82b0 := decide_eq_true c82
        clear c82
        obtain ⟨c83, H⟩ := pos_ H
        have c83b0 := eq_true c83
        have c83b1 := decide_eq_true c83
        clear c83
        obtain ⟨y152, hy152⟩ : ∃ y_ : List Int, y_ = ((rd_L2 x114001_1 (ji80)).drop 1) := ⟨_, rfl⟩
        replace H : (some (x114000_1, (x114001_1.set ((ji80) : Int).toNat y152), t149)) = some (r1, r2, r3) := by first | (rw [hy152]; with_reducible exact H) | (have H2_ := (Option.bind_some _ _).symm.trans H; rw [hy152]; with_reducible exact H2_) | (have H2_ := (Option.bind_some _ _).symm.trans H; with_reducible exact H2_) | with_reducible exact H | (rw [hy152]; exact H) | exact H
        have Ny152 := Aside0.mk hy152
        clear hy152
        obtain ⟨y157, hy157⟩ : ∃ y_ : List (List Int), y_ = (x114001_1.set ((ji80) : Int).toNat y152) := ⟨_, rfl⟩
        replace H : (some (x114000_1, y157, t149)) = some (r1, r2, r3) := by first | (rw [hy157]; with_reducible exact H) | (have H2_ := (Option.bind_some _ _).symm.trans H; rw [hy157]; with_reducible exact H2_) | (have H2_ := (Option.bind_some _ _).symm.trans H; with_reducible exact H2_) | with_reducible exact H | (rw [hy157]; exact H) | exact H
        have Ny157 := Aside0.mk hy157
        clear hy157
        simp only [Option.some.injEq, Prod.mk.injEq] at H
        obtain ⟨rfl, rfl, rfl⟩ := H
        try go_wp2_with (first | ((with_reducible refine gate_callee (f := 88) rfl ?_); refine goesL_ (some 66) rfl rfl Try.func88 k_ rfl #[.pointer (some ⟨g, 0, none⟩), .int .i64 a1] rfl (g2_) ?_; (with_reducible refine (spec_l20Rd_odd.calls k1 g s0_0 x1001_1 a1 true t147 w0 _ ?side1 ?side2 A56.out).mono ?_); (case side1 => exact qz43_); (case side2 => exact qz44_); rintro e w85 ⟨rfl, hi, hb, hk⟩; refine ⟨_, rfl, ?_⟩; replace HO_114000 := Aside0.mk (Kd.R_mono (Kd.R_keep (IsS79.apart (show IsS79 w0 _ g s0_0 x1001_1 from qz43_) (uf1_ HO_114000) (by decide)) hk (fun _ h => h.2)) (fun _ h => h.1)); replace HO_114001 := Aside0.mk (Kd.N_mono (Kd.N_keep (Kd.N_mono (ok := fun k_ => (((w.heap.size ≤ k_)) ∧ (some k_ ≠ (u114000 : Value).ownBlock ∧ (k_ ≠ gb106 ∧ (k_ ≠ gb113 ∧ k_ ≠ g))))) (uf3_ HO_114001) (fun k_ hk_ => (⟨hk_, hk_.2.2.2.2⟩ : _ ∧ k_ ≠ g))) hk (fun _ h => h.2)) (fun _ h => h.1)); replace BK106 := Aside0.mk (KeepBut.blk hk (g' := gb106) (o := .cells #[.slice none 0 0, .slice none 0 0] 26 (0, 0)) (uf0_ BK106) NB106_0.out (by simp)); replace BK113 := Aside0.mk (KeepBut.blk hk (g' := gb113) (o := .cells #[u114000, u114001] 26 (0, 0)) (uf0_ BK113) NB113_0.out (by simp)); replace HK := Aside0.mk (KeepBut.trans (qz14_) hk (.inl rfl)); replace HB := Aside0.mk (hb); replace HI0 := Aside0.mk (hi); (try clear hb); (try clear hk hi)) | ((with_reducible refine gate_callee (f := 87) rfl ?_); refine goesL_ (some 68) rfl rfl Try.func87 k_ rfl #[.pointer (some ⟨g, 0, none⟩), .int .i64 4] rfl (g2_) ?_; (with_reducible refine (spec_l20Rd_pick.calls k1 g s0_0 t147 4 t148 t149 w0 _ ?side1 ?side2 A58.out).mono ?_); (case side1 => exact qz43_); (case side2 => exact qz44_); rintro e w86 ⟨rfl, hi, hb, hk⟩; refine ⟨_, rfl, ?_⟩; replace HO_114000 := Aside0.mk (Kd.R_mono (Kd.R_keep (IsS79.apart (show IsS79 w0 _ g s0_0 t147 from qz43_) (uf1_ HO_114000) (by decide)) hk (fun _ h => h.2)) (fun _ h => h.1)); replace HO_114001 := Aside0.mk (Kd.N_mono (Kd.N_keep (Kd.N_mono (ok := fun k_ => (((w.heap.size ≤ k_)) ∧ (some k_ ≠ (u114000 : Value).ownBlock ∧ (k_ ≠ gb106 ∧ (k_ ≠ gb113 ∧ k_ ≠ g))))) (uf3_ HO_114001) (fun k_ hk_ => (⟨hk_, hk_.2.2.2.2⟩ : _ ∧ k_ ≠ g))) hk (fun _ h => h.2)) (fun _ h => h.1)); replace BK106 := Aside0.mk (KeepBut.blk hk (g' := gb106) (o := .cells #[.slice none 0 0, .slice none 0 0] 26 (0, 0)) (uf0_ BK106) NB106_0.out (by simp)); replace BK113 := Aside0.mk (KeepBut.blk hk (g' := gb113) (o := .cells #[u114000, u114001] 26 (0, 0)) (uf0_ BK113) NB113_0.out (by simp)); replace HK := Aside0.mk (KeepBut.trans (qz14_) hk (.inl rfl)); replace HB := Aside0.mk (hb); replace HI0 := Aside0.mk (hi); (try clear hb); (try clear hk hi)))
        replace HO_114000 := Aside0.mk (Kd.R_drew HO_114000.out)
        replace HO_114001 := Aside0.mk (Kd.N_drew HO_114001.out)
        replace BK106 := Aside0.mk (blk_drew BK106.out)
        replace BK113 := Aside0.mk (blk_drew BK113.out)
        replace HI0 := Aside0.mk (IsS79.drew HI0.out)
        replace HK := Aside0.mk (keep_drew HK.out)
        replace HB := Aside0.mk (below_drew1 HB.out)
        obtain ⟨Ao88, co88, eo88⟩ := Kd.N_slice HO_114001.out
        (first | subst eo88 | (injection eo88 with f1_ f2_ f3_; have f4_ := f1_.symm; have f5_ := f3_.symm; clear f1_ f2_ f3_; subst f4_; subst f5_))
        have p151 : 0 ≤ ((ji80) : Int) := of_decide_eq_true (g1_)
        have q151 : (ji80) < (x114001_1.length : Int) := of_decide_eq_true (g1_)
        obtain ⟨ad151, A151_0, c151_0, e151, hx151_0, hl151_0, hi151_0⟩ := at_L2 (Kd.N_reads' HO_114001.out).2.2 (ji80) p151 q151
        cases e151
        obtain ⟨ce151, hce151, hMe151, hcc151⟩ := Kd.N_get HO_114001.out [] (ji80) p151 (by first | exact q151 | exact of_decide_eq_true (g1_) | (have e_ := (Kd.N_reads' HO_114001.out).1; omega))
        obtain ⟨ua151_0, uc151_0, rfl, ul151_0, ge151_0⟩ := Kd.FK_slice_open hMe151
        have hv151_0 := hcc151 0 _ rfl
        rw [Nat.add_zero, show ((Kd.slice 3 (Kd.int .i64))).sz = 1 from rfl, Nat.mul_one] at hv151_0
        replace hv151_0 := Option.some.inj (hv151_0.symm.trans hx151_0)
        injection hv151_0 with hva_ hvn_ hvc_
        rw [hva_] at ge151_0
        rw [hvc_] at ul151_0
        have HL151_0 := Aside0.mk (show Kd.V (Kd.int .i64) 3 _ w.heap.size _ _ (rd_L2 x114001_1 (ji80)) from Kd.V_mk ul151_0 ge151_0)
        clear hva_ hvn_ hvc_ ge151_0 ul151_0
        clear hcc151 hce151
        have HR151_0 := Aside0.mk hi151_0
        have HC151_0 := Aside0.mk hl151_0
        clear hi151_0 hl151_0
        replace p151 := eq_true p151
        replace q151 := eq_true q151
        have q89 : (1 : Int) ≤ (((rd_L2 x114001_1 (ji80)).length : Int) : Int) := of_decide_eq_true (g1_)
        obtain ⟨i089, hi089, _, hsz89, _⟩ := info_parts info3
        have hroom89 : (rd_L2 x114001_1 (ji80)).length ≤ c151_0 := HC151_0.out
        have hC89 : Kd.F (Kd.int .i64) _ _ A151_0 (rd_L2 x114001_1 (ji80)).length (rd_L2 x114001_1 (ji80)) := (Kd.V_at (base := w.heap.size) HL151_0.out).2.2
        have hcut89 := cut_from (P := Try.prog) 23 3 .i64 Try.underlying23 hi089 1 hsz89 A151_0 (rd_L2 x114001_1 (ji80)).length c151_0 1 (by omega) q89
        have hr89 := Kd.F_cut (m := (1 : Int).toNat) (c := c151_0) hC89 (by omega) hroom89
        obtain ⟨A89, hA89⟩ : ∃ A1, A1 = (if c151_0 = (1 : Int).toNat then A151_0 else (A151_0 : Option Addr).map (·.add ((1 : Int).toNat * 1))) := ⟨_, rfl⟩
        obtain ⟨c89, hc89⟩ : ∃ c1, c1 = c151_0 - (1 : Int).toNat := ⟨_, rfl⟩
        have hy89 : y152.length = (rd_L2 x114001_1 (ji80)).length - (1 : Int).toNat := (by rw [Ny152.out, List.length_drop] <;> omega)
        rw [show (rd_L2 x114001_1 (ji80)).drop (1 : Int).toNat = y152 from Ny152.out.symm] at hr89
        replace hr89 : Kd.F (Kd.int .i64) _ _ A89 y152.length y152 := (by rw [hA89]; exact hr89)
        rw [← hy89, ← hA89, ← hc89] at hcut89
        have HO156 := Aside0.mk (show Kd.V (Kd.int .i64) 3 _ w.heap.size _ (.slice A89 y152.length c89) y152 from Kd.V_mk (by rw [hy89, hc89]; exact Nat.sub_le_sub_right hroom89 _) hr89)
        have HC156 := Aside0.mk (show y152.length ≤ c89 from by rw [hy89, hc89]; exact Nat.sub_le_sub_right hroom89 _)
        clear hr89 hC89 hroom89 hi089 hsz89 hc89
        have KY89 := Aside0.mk hy89
        have KA89 := Aside0.mk hA89
        clear hy89 hA89
        replace q89 := eq_true q89
        have p84 : 0 ≤ ((ji80) : Int) := of_decide_eq_true (g1_)
        have q84 : ((ji80) : Int) < ((x114001_1.length : Int) : Int) := of_decide_eq_true (g1_)
        obtain ⟨go84, co84, eo84, gb84, gl84, cl84, HG84⟩ := Kd.N_form HO_114001.out (by omega)
        (first | cases eo84 | (injection eo84 with ea_ en_ ec_; (first | subst ea_ | (injection ea_ with ea_; subst ea_)); subst ec_; clear en_))
        have GB84 := Aside0.mk gb84
        have GG84 := Aside0.mk HG84
        clear gb84 gl84 HG84
        (first | simp only [add_plain] at hx151_0 | skip)
        obtain ⟨ce84, hcl84, hM84, hcc84, hfr84⟩ := Kd.N_elem HO_114001.out [] ((ji80) : Int) p84 q84
        obtain ⟨ua84_0, uc84_0, rfl, ul84_0, ge84_0⟩ := Kd.FK_slice_open hM84
        have hx84_0 := hcc84 0 _ rfl
        have hf84_0 := hfr84 0
        (try simp only [show ((Kd.slice 3 (Kd.int .i64))).sz = 1 from rfl, Nat.mul_one, Nat.add_zero] at hx84_0)
        (try simp only [show ((Kd.slice 3 (Kd.int .i64))).sz = 1 from rfl, Nat.mul_one, Nat.add_zero] at hf84_0)
        clear hcl84 hcc84 hfr84 hM84
        replace p84 := eq_true p84
        replace q84 := eq_true q84
        have HN0_go84 := Aside0.mk (show g ≠ go84 from by have h_ := IsS79.own_neN HI0.out HO_114001.out (by decide); intro e_; exact h_ (g36_))
        have HX90 := Aside0.mk (show Kd.N (Kd.slice 3 (Kd.int .i64)) 23 _ w.heap.size (fun k_ => (w.heap.size ≤ k_) ∧ some k_ ≠ (u114000 : Value).ownBlock ∧ k_ ≠ gb106 ∧ k_ ≠ gb113 ∧ k_ ≠ g) (.slice (some ⟨go84, 0, none⟩) x114001_1.length co88) x114001_1 from (Kd.N_mono (HO_114001.out) (fun k_ hk => ⟨hk.1, ⟨hk.2.1, ⟨hk.2.2.1, ⟨hk.2.2.2.1, hk.2.2.2.2⟩⟩⟩⟩)))
        obtain ⟨ce90, hcl90, hM90, hcc90, hfr90⟩ := Kd.N_elem HX90.out [] ((ji80) : Int) (of_decide_eq_true (g1_)) (by have h_ : ((ji80) : Int) < ((x114001_1.length : Int) : Int) := of_decide_eq_true (g1_); first | exact h_ | (have e_ := (Kd.N_reads' HO_114001.out).1; omega) | simpa using h_)
        obtain ⟨ua90_0, uc90_0, rfl, ul90_0, ge90_0⟩ := Kd.FK_slice_open hM90
        have HP90 := (Kd.N_seg HX90.out ((ji80) : Int) (of_decide_eq_true (g1_)) (by have h_ : ((ji80) : Int) < ((x114001_1.length : Int) : Int) := of_decide_eq_true (g1_); first | exact h_ | (have e_ := (Kd.N_reads' HO_114001.out).1; omega) | simpa using h_) (seg := [.slice A89 y152.length c89]) (j := 0) hcl90 hcc90 (show 1 ≤ 1 from by decide) (x' := y152) (Kd.FK_slice_mk (Kd.V_reads' (Kd.V_mono (ok' := (fun k_ => ((fun k_ => (w.heap.size ≤ k_) ∧ some k_ ≠ (u114000 : Value).ownBlock ∧ k_ ≠ gb106 ∧ k_ ≠ gb113 ∧ k_ ≠ g)) k_ ∧ k_ ≠ go84)) (HO156.out) (fun k_ hk => ⟨⟨hk.1.1, ⟨hk.1.2.1, ⟨hk.1.2.2.1, ⟨hk.1.2.2.2.1, hk.1.2.2.2.2⟩⟩⟩⟩, fun e_ => (hk.2) (g36_)⟩))).2.1 (Kd.V_F (Kd.V_mono (ok' := (fun k_ => ((fun k_ => (w.heap.size ≤ k_) ∧ some k_ ≠ (u114000 : Value).ownBlock ∧ k_ ≠ gb106 ∧ k_ ≠ gb113 ∧ k_ ≠ g)) k_ ∧ k_ ≠ go84)) (HO156.out) (fun k_ hk => ⟨⟨hk.1.1, ⟨hk.1.2.1, ⟨hk.1.2.2.1, ⟨hk.1.2.2.2.1, hk.1.2.2.2.2⟩⟩⟩⟩, fun e_ => (hk.2) (g36_)⟩)))) (fun _ hk => hk)).1
        (try simp only [show ((Kd.slice 3 (Kd.int .i64))).sz = 1 from rfl, Nat.mul_one, Nat.add_zero] at HP90)
        rw [← Ny157.out] at HP90
        have HQ90 := Aside0.mk HP90
        clear hcl90 hcc90 hfr90 hM90 HP90
        refine start_ (n := 13) (S := fun w' => w'.cell? ⟨gb113, 0, none⟩ = some (u114000) ∧ w'.cell? ⟨gb113, 1, none⟩ = some (.slice (some ⟨go84, 0, none⟩) x114001_1.length co88) ∧ w'.cell? ⟨go84, ((ji80)).toNat, none⟩ = some (.slice A151_0 (rd_L2 x114001_1 (ji80)).length c151_0)) (ds := [12]) (tl_ 13 0) (g0_) rfl (g0_) ⟨(blk_cell BK113.out 0).trans rfl, (blk_cell BK113.out 1).trans rfl, hx151_0⟩ (fun hHeld => ?_); refine with_tabW spec_l20Book.tab19 spec_l20Book.bits19 (fun HT_ HW_ => ?_)
        generalize w86.drew = w87 at HO_114000 HO_114001 BK106 BK113 HI0 HK HB GG84 HL151_0 HO156 HQ90 HR151_0 hf84_0 hx151_0 hx84_0 hHeld ⊢
        refine pw_ 0 69 (tl_ 13 1) rfl rfl ?_
        refine pw_ 2 71 (tl_ 13 5) rfl rfl ?_
        refine pw_ 3 72 (tl_ 13 13) rfl rfl ?_
        refine pw_ 4 73 (tl_ 13 29) rfl rfl ?_
        refine pw_ 6 75 (tl_ 13 93) rfl rfl ?_
        refine pw_ 7 76 (tl_ 13 221) rfl rfl ?_
        refine tk1_ 1 70 (tl_ 13 223) rfl rfl hHeld ?_
        refine tk1_ 5 74 (tl_ 13 255) rfl rfl hHeld ?_
        refine pw_ 8 77 (tl_ 13 511) rfl rfl ?_
        refine tk1_ 9 78 (tl_ 13 1023) rfl rfl hHeld ?_
        refine pw_ 10 79 (tl_ 13 2047) rfl rfl ?_
        refine pw_ 11 80 (tl_ 13 4095) rfl rfl ?_
        refine last_ (i := 12) (N := none) (tl_ 13 8191) rfl rfl (one_of HT_.out (g0_)) (by decide) (fun K hK => ?_)
        refine skip_ (w1 := ?_) (by rfl) rfl ?_ ?_
        rotate_left
        ·go_simp
         rfl
        refine hK.out _ _ ?_
        clear hK K
        refine done_ (done_of HT_.out (g0_)) ?_
        have n0_ : Aside0 (Kd.R (Kd.int .i64) 3 (w87.setCell ⟨go84, ((ji80) : Int).toNat, none⟩ (.slice A89 y152.length c89)) w.heap.size (fun k_ => (w.heap.size ≤ k_)) u114000 x114000_1) := ⟨by (with_reducible repeat (first | apply Kd.R_alloc | apply Kd.R_drewN | apply Kd.R_drew)); exact Kd.R_mono (Kd.R_far (p := ⟨go84, ((ji80) : Int).toNat, none⟩) (Kd.R_types HO_114000.out GG84.out (by decide)) (fun _ hk => hk.2) (.slice A89 y152.length c89)) (fun _ hk => hk.1)⟩
        have n1_ : Aside0 (Kd.N (Kd.slice 3 (Kd.int .i64)) 23 (w87.setCell ⟨go84, ((ji80) : Int).toNat, none⟩ (.slice A89 y152.length c89)) w.heap.size (fun k_ => (w.heap.size ≤ k_) ∧ some k_ ≠ (u114000 : Value).ownBlock ∧ k_ ≠ gb106 ∧ k_ ≠ gb113 ∧ k_ ≠ g) (.slice (some ⟨go84, 0, none⟩) x114001_1.length co88) y157) := ⟨uf3_ HQ90⟩
        have n2_ : Aside0 (Kd.V (Kd.int .i64) 3 (w87.setCell ⟨go84, ((ji80) : Int).toNat, none⟩ (.slice A89 y152.length c89)) w.heap.size (fun k_ => (w.heap.size ≤ k_) ∧ some k_ ≠ (u114000 : Value).ownBlock ∧ some k_ ≠ (.slice (some ⟨go84, 0, none⟩) x114001_1.length co88 : Value).ownBlock ∧ k_ ≠ gb106 ∧ k_ ≠ gb113 ∧ k_ ≠ g) (.slice A151_0 (rd_L2 x114001_1 (ji80)).length c151_0) (rd_L2 x114001_1 (ji80))) := ⟨by (with_reducible repeat (first | apply Kd.V_alloc | apply Kd.V_drewN | apply Kd.V_drew)); exact Kd.V_mono (Kd.V_far (p := ⟨go84, ((ji80) : Int).toNat, none⟩) (Kd.V_mono HL151_0.out (fun k_ hk => (⟨hk, fun e_ => hk.2 (g36_)⟩ : _ ∧ k_ ≠ go84))) (fun _ hk => hk.2) (.slice A89 y152.length c89)) (fun _ hk => ⟨hk.1.1.1, ⟨hk.1.1.2.1, ⟨hk.1.2, ⟨hk.1.1.2.2.1, ⟨hk.1.1.2.2.2.1, hk.1.1.2.2.2.2⟩⟩⟩⟩⟩)⟩
        have n3_ : Aside0 (Kd.V (Kd.int .i64) 3 (w87.setCell ⟨go84, ((ji80) : Int).toNat, none⟩ (.slice A89 y152.length c89)) w.heap.size (fun k_ => (w.heap.size ≤ k_) ∧ some k_ ≠ (u114000 : Value).ownBlock ∧ some k_ ≠ (.slice (some ⟨go84, 0, none⟩) x114001_1.length co88 : Value).ownBlock ∧ k_ ≠ gb106 ∧ k_ ≠ gb113 ∧ k_ ≠ g) (.slice A89 y152.length c89) y152) := ⟨by (with_reducible repeat (first | apply Kd.V_alloc | apply Kd.V_drewN | apply Kd.V_drew)); exact Kd.V_mono (Kd.V_far (p := ⟨go84, ((ji80) : Int).toNat, none⟩) (Kd.V_mono HO156.out (fun k_ hk => (⟨hk, fun e_ => hk.2 (g36_)⟩ : _ ∧ k_ ≠ go84))) (fun _ hk => hk.2) (.slice A89 y152.length c89)) (fun _ hk => ⟨hk.1.1.1, ⟨hk.1.1.2.1, ⟨hk.1.2, ⟨hk.1.1.2.2.1, ⟨hk.1.1.2.2.2.1, hk.1.1.2.2.2.2⟩⟩⟩⟩⟩)⟩
        have n4_ : Aside0 ((w87.setCell ⟨go84, ((ji80) : Int).toNat, none⟩ (.slice A89 y152.length c89)).heap[gb106]? = some (.cells #[.slice none 0 0, .slice none 0 0] 26 (0, 0))) := ⟨by (with_reducible repeat (first | refine blk_drewN ?_ _ | refine blk_drew ?_ | refine blk_alloc ?_ _)); refine blk_far ?_ (by have h_ := Kd.N_away HO_114001.out (fun _ hk => hk.2.2.1); intro e_; exact h_ (g36_)) _; (with_reducible repeat (first | refine blk_drewN ?_ _ | refine blk_drew ?_ | refine blk_alloc ?_ _)); exact BK106.out⟩
        have n5_ : Aside0 ((w87.setCell ⟨go84, ((ji80) : Int).toNat, none⟩ (.slice A89 y152.length c89)).heap[gb113]? = some (.cells #[u114000, .slice (some ⟨go84, 0, none⟩) x114001_1.length co88] 26 (0, 0))) := ⟨by (with_reducible repeat (first | refine blk_drewN ?_ _ | refine blk_drew ?_ | refine blk_alloc ?_ _)); refine blk_far ?_ (by have h_ := Kd.N_away HO_114001.out (fun _ hk => hk.2.2.2.1); intro e_; exact h_ (g36_)) _; (with_reducible repeat (first | refine blk_drewN ?_ _ | refine blk_drew ?_ | refine blk_alloc ?_ _)); exact BK113.out⟩
        have n6_ : Aside0 (IsS79 w0 (w87.setCell ⟨go84, ((ji80) : Int).toNat, none⟩ (.slice A89 y152.length c89)) g s0_0 t149) := ⟨qz43_⟩
        have n7_ : Aside0 (KeepBut w (w87.setCell ⟨go84, ((ji80) : Int).toNat, none⟩ (.slice A89 y152.length c89)) g none) := ⟨qz14_⟩
        have n8_ : Aside0 (Below w0.heap.size w0 (w87.setCell ⟨go84, ((ji80) : Int).toNat, none⟩ (.slice A89 y152.length c89))) := ⟨qz44_⟩
        (try clear HO_114000)
        (try clear HO_114001)
        (try clear HL151_0)
        (try clear HO156)
        (try clear BK106)
        (try clear BK113)
        (try clear HI0)
        (try clear HK)
        (try clear HB)
        generalize (w87.setCell ⟨go84, ((ji80) : Int).toNat, none⟩ (.slice A89 y152.length c89)) = w91 at n0_ n1_ n2_ n3_ n4_ n5_ n6_ n7_ n8_ ⊢
        have HO_114000 := n0_
        have HO_114001 := n1_
        have HL151_0 := n2_
        have HO156 := n3_
        have BK106 := n4_
        have BK113 := n5_
        have HI0 := n6_
        have HK := n7_
        have HB := n8_
        clear n0_ n1_ n2_ n3_ n4_ n5_ n6_ n7_ n8_
        have hnb92 := NB113_106.out
        have hnc92 := NB106_113.out
        have hnb93 := NB113_0.out
        have hnc93 := NB0_113.out
        obtain ⟨hcz94_0, hcz94_1, hfz94_0, hfz94_1⟩ := blk2_ BK113
        obtain ⟨Ao95, co95, eo95⟩ := Kd.R_slice HO_114000.out
        subst eo95
        have hnb96 := NB106_0.out
        have hnc96 := NB0_106.out
        obtain ⟨hcz97_0, hcz97_1, hfz97_0, hfz97_1⟩ := blk2_ BK106
        try go_wp2
        refine bodyPost_ret (results_cell_row rfl _ _ gb106 26 #[.slice Ao95 x114000_1.length co95, .slice (some ⟨go84, 0, none⟩) x114001_1.length co88] (0, 0) _ rfl (by (with_reducible repeat (first | refine blk_drewN ?_ _ | refine blk_drew ?_ | refine blk_alloc ?_ _)); refine blk_put (cs := #[.slice Ao95 x114000_1.length co95, .slice none 0 0]) ?_ 1 _ rfl; (with_reducible repeat (first | refine blk_drewN ?_ _ | refine blk_drew ?_ | refine blk_alloc ?_ _)); refine blk_put (cs := #[.slice none 0 0, .slice none 0 0]) ?_ 0 _ rfl; (with_reducible repeat (first | refine blk_drewN ?_ _ | refine blk_drew ?_ | refine blk_alloc ?_ _)); exact BK106.out) Try.underlying26 rfl (g0_)) rfl ?_
        exact ⟨_, _, by first | rfl | (simp [errW_none, errW_some] <;> rfl) | (simp only [← hji80]; first | rfl | (simp [errW_none, errW_some] <;> rfl)) | (simp [*, errW_none, errW_some] <;> rfl), by (with_reducible repeat (first | apply Kd.R_alloc | apply Kd.R_drewN | apply Kd.R_drew)); exact Kd.R_mono (Kd.R_far (p := ⟨gb106, 1, none⟩) (Kd.R_far (p := ⟨gb106, 0, none⟩) (Kd.R_types HO_114000.out BK106.out (by decide)) (fun _ hk => hk.2) (.slice Ao95 x114000_1.length co95)) (fun _ hk => hk.2) (.slice (some ⟨go84, 0, none⟩) x114001_1.length co88)) (fun _ hk => hk.1), Kd.N_V (by (with_reducible repeat (first | apply Kd.N_alloc | apply Kd.N_drewN | apply Kd.N_drew)); exact Kd.N_mono (Kd.N_far (p := ⟨gb106, 1, none⟩) (Kd.N_far (p := ⟨gb106, 0, none⟩) (Kd.N_mono HO_114001.out (fun k_ hk => (⟨hk, hk.2.2.1⟩ : _ ∧ k_ ≠ gb106))) (fun _ hk => hk.2) (.slice Ao95 x114000_1.length co95)) (fun _ hk => hk.2) (.slice (some ⟨go84, 0, none⟩) x114001_1.length co88)) (fun _ hk => ⟨hk.1.1, hk.1.2.1⟩)), qz43_, qz44_, qz14_⟩
    ·replace c57 := Bool.eq_false_iff.mpr c57
     subst c57
     replace H := ifn_ H
     simp only [Option.some.injEq, Prod.mk.injEq] at H
     obtain ⟨rfl, rfl, rfl⟩ := H
     go_wp2_with (first | ((with_reducible refine gate_callee (f := 88) rfl ?_); refine goesL_ (some 66) rfl rfl Try.func88 k_ rfl #[.pointer (some ⟨g, 0, none⟩), .int .i64 a1] rfl (g2_) ?_; (with_reducible refine (spec_l20Rd_odd.calls k1 g s0_0 x1001_1 a1 false t147 w0 _ ?side1 ?side2 A56.out).mono ?_); (case side1 => exact qz43_); (case side2 => exact qz44_); rintro e w95 ⟨rfl, hi, hb, hk⟩; refine ⟨_, rfl, ?_⟩; replace HO_114000 := Aside0.mk (Kd.R_mono (Kd.R_keep (IsS79.apart (show IsS79 w0 _ g s0_0 x1001_1 from qz43_) (uf1_ HO_114000) (by decide)) hk (fun _ h => h.2)) (fun _ h => h.1)); replace HO_114001 := Aside0.mk (Kd.S_mono (Kd.S_keep (IsS79.apartS (show IsS79 w0 _ g s0_0 x1001_1 from qz43_) (uf2_ HO_114001) (by decide)) hk (fun _ h => h.2)) (fun _ h => h.1)); replace BK106 := Aside0.mk (KeepBut.blk hk (g' := gb106) (o := .cells #[.slice none 0 0, .slice none 0 0] 26 (0, 0)) (uf0_ BK106) NB106_0.out (by simp)); replace BK113 := Aside0.mk (KeepBut.blk hk (g' := gb113) (o := .cells #[u114000, u114001] 26 (0, 0)) (uf0_ BK113) NB113_0.out (by simp)); replace HK := Aside0.mk (KeepBut.trans (qz14_) hk (.inl rfl)); replace HB := Aside0.mk (hb); replace HI0 := Aside0.mk (hi); (try clear hb); (try clear hk hi); have hnb96 := NB113_106.out; have hnc96 := NB106_113.out; have hnb97 := NB113_0.out; have hnc97 := NB0_113.out; obtain ⟨hcz98_0, hcz98_1, hfz98_0, hfz98_1⟩ := blk2_ BK113; obtain ⟨Ao99, co99, eo99⟩ := Kd.R_slice HO_114000.out; subst eo99; have hnb100 := NB106_0.out; have hnc100 := NB0_106.out; obtain ⟨hcz101_0, hcz101_1, hfz101_0, hfz101_1⟩ := blk2_ BK106; obtain ⟨Ao102, co102, eo102⟩ := Kd.S_slice HO_114001.out; subst eo102))
     refine bodyPost_ret (results_cell_row rfl _ _ gb106 26 #[.slice Ao99 x114000_1.length co99, .slice Ao102 x114001_1.length co102] (0, 0) _ rfl (by (with_reducible repeat (first | refine blk_drewN ?_ _ | refine blk_drew ?_ | refine blk_alloc ?_ _)); refine blk_put (cs := #[.slice Ao99 x114000_1.length co99, .slice none 0 0]) ?_ 1 _ rfl; (with_reducible repeat (first | refine blk_drewN ?_ _ | refine blk_drew ?_ | refine blk_alloc ?_ _)); refine blk_put (cs := #[.slice none 0 0, .slice none 0 0]) ?_ 0 _ rfl; (with_reducible repeat (first | refine blk_drewN ?_ _ | refine blk_drew ?_ | refine blk_alloc ?_ _)); exact BK106.out) Try.underlying26 rfl (g0_)) rfl ?_
     exact ⟨_, _, g4_, by (with_reducible repeat (first | apply Kd.R_alloc | apply Kd.R_drewN | apply Kd.R_drew)); exact Kd.R_mono (Kd.R_far (p := ⟨gb106, 1, none⟩) (Kd.R_far (p := ⟨gb106, 0, none⟩) (Kd.R_types HO_114000.out BK106.out (by decide)) (fun _ hk => hk.2) (.slice Ao99 x114000_1.length co99)) (fun _ hk => hk.2) (.slice Ao102 x114001_1.length co102)) (fun _ hk => hk.1), Kd.S_V (by (with_reducible repeat (first | apply Kd.S_alloc | apply Kd.S_drewN | apply Kd.S_drew)); exact Kd.S_mono (Kd.S_far (p := ⟨gb106, 1, none⟩) (Kd.S_far (p := ⟨gb106, 0, none⟩) (Kd.S_types HO_114001.out BK106.out (by decide)) (fun _ hk => hk.2) (.slice Ao99 x114000_1.length co99)) (fun _ hk => hk.2) (.slice Ao102 x114001_1.length co102)) (fun _ hk => ⟨hk.1.1, hk.1.2⟩)), qz43_, qz44_, qz14_⟩
def spec_l1Abs.f (a0 : Int) : Option (Int) := if a0 < 0 then (some (wrap64 (-a0))) else (some a0)
set_option maxHeartbeats 8000000 in
set_option maxRecDepth 100000 in
theorem spec_l1Abs.calls (a0 : Int) (r : Int) (w : World) (h : spec_l1Abs.f a0 = some r) :
  Calls Try.prog 100 #[.int .i64 a0] w fun e w' => e = .returned (.int .i64 r) ∧ Drawn0 w w' := by
 have H : (if a0 < 0 then (some (wrap64 (-a0))) else (some a0)) = some r := h
 clear h
 by_cases c2 : a0 < 0
 ·rw [if_pos c2] at H
  have c2b0 := decide_eq_true c2
  clear c2
  obtain rfl := Option.some.inj H
  go_enter Try.func100, Try.ntmps100
  go_wp2
  go_ret
  exact ⟨g3_, g5_⟩
 ·rw [if_neg c2] at H
  have c2b0 := decide_eq_false c2
  clear c2
  obtain rfl := Option.some.inj H
  go_enter Try.func100, Try.ntmps100
  go_wp2
  go_ret
  exact ⟨g3_, g5_⟩
def spec_l1Divisor.l0 : Nat → Int → Int → Option (Int)
 | 0, _, _ => none
 | k + 1, x0, x1 => if x1 > 0 then (if x1 = 0 then (none) else (spec_l1Divisor.l0 k x1 (Int.tmod x0 x1))) else (some x0)
def spec_l1Divisor.f (k : Nat) (a0 : Int) (a1 : Int) : Option (Int) := (spec_l1Abs.f a0).bind fun t340 => ((spec_l1Abs.f a1).bind fun t341 => (spec_l1Divisor.l0 k t340 t341))
theorem spec_l1Divisor.mq {p : Prop} (h : p := by
 repeat' first
 | (with_reducible exact ih0 _ _)
 | (with_reducible exact LeO.refl _)
 | (with_reducible exact LeO.none _)
 | (with_reducible refine LeO.ite ?_ ?_)
 | (with_reducible refine LeO.bind ?_ (fun _ => ?_))
 | exact ih0 _ _
 | exact LeO.none _
 | refine LeO.ite ?_ ?_
 | refine LeO.bind ?_ (fun _ => ?_)) : p := h
theorem spec_l1Divisor.mono_l : ∀ k, (∀ y0 y1, LeO (spec_l1Divisor.l0 k y0 y1) (spec_l1Divisor.l0 (k + 1) y0 y1))
 | 0 => fun _ _ r h => by simp [spec_l1Divisor.l0] at h
 | k + 1 => by
  have ih0 := spec_l1Divisor.mono_l k
  ·intro y0 y1
   unfold spec_l1Divisor.l0
   exact spec_l1Divisor.mq
theorem spec_l1Divisor.mono : ∀ a0 a1 k, LeO (spec_l1Divisor.f k a0 a1) (spec_l1Divisor.f (k + 1) a0 a1) := by
 intro a0 a1 k
 have ih0 := spec_l1Divisor.mono_l k
 unfold spec_l1Divisor.f
 exact spec_l1Divisor.mq
set_option maxHeartbeats 8000000 in
set_option maxRecDepth 100000 in
theorem spec_l1Divisor.calls (k : Nat) (a0 : Int) (a1 : Int) (r : Int) (w : World) (h : spec_l1Divisor.f k a0 a1 = some r) :
  Calls Try.prog 94 #[.int .i64 a0, .int .i64 a1] w fun e w' => e = .returned (.int .i64 r) ∧ Drawn0 w w' := by
 have H : ((spec_l1Abs.f a0).bind fun t340 => ((spec_l1Abs.f a1).bind fun t341 => (spec_l1Divisor.l0 k t340 t341))) = some r := h
 clear h
 obtain ⟨t340, A3, H⟩ := bind_ H
 obtain ⟨t341, A4, H⟩ := bind_ H
 have H' := Aside0.mk H
 clear H
 go_enter Try.func94, Try.ntmps94
 go_wp2_with (first | (go_at_call 100; (with_reducible refine (spec_l1Abs.calls a0 t340 _ A3.out).mono ?_); rintro e w' ⟨rfl, ⟨nd, rfl⟩⟩; (try first | exact ⟨rfl, _, World.drewN_drewN _ _ _⟩ | exact ⟨rfl, _, Eq.trans (World.drewN_drewN _ _ _) (congrArg (World.drewN _) (Nat.add_assoc _ _ _))⟩)) | (go_at_call 100; (with_reducible refine (spec_l1Abs.calls a1 t341 _ A4.out).mono ?_); rintro e w' ⟨rfl, ⟨nd, rfl⟩⟩; (try first | exact ⟨rfl, _, World.drewN_drewN _ _ _⟩ | exact ⟨rfl, _, Eq.trans (World.drewN_drewN _ _ _) (congrArg (World.drewN _) (Nat.add_assoc _ _ _))⟩)))
 repeat (go_quiet (first | (go_at_call 100; (with_reducible refine (spec_l1Abs.calls a0 t340 _ A3.out).mono ?_); rintro e w' ⟨rfl, ⟨nd, rfl⟩⟩; (try first | exact ⟨rfl, _, World.drewN_drewN _ _ _⟩ | exact ⟨rfl, _, Eq.trans (World.drewN_drewN _ _ _) (congrArg (World.drewN _) (Nat.add_assoc _ _ _))⟩)) | (go_at_call 100; (with_reducible refine (spec_l1Abs.calls a1 t341 _ A4.out).mono ?_); rintro e w' ⟨rfl, ⟨nd, rfl⟩⟩; (try first | exact ⟨rfl, _, World.drewN_drewN _ _ _⟩ | exact ⟨rfl, _, Eq.trans (World.drewN_drewN _ _ _) (congrArg (World.drewN _) (Nat.add_assoc _ _ _))⟩))); try go_wp2_with (first | (go_at_call 100; (with_reducible refine (spec_l1Abs.calls a0 t340 _ A3.out).mono ?_); rintro e w' ⟨rfl, ⟨nd, rfl⟩⟩; (try first | exact ⟨rfl, _, World.drewN_drewN _ _ _⟩ | exact ⟨rfl, _, Eq.trans (World.drewN_drewN _ _ _) (congrArg (World.drewN _) (Nat.add_assoc _ _ _))⟩)) | (go_at_call 100; (with_reducible refine (spec_l1Abs.calls a1 t341 _ A4.out).mono ?_); rintro e w' ⟨rfl, ⟨nd, rfl⟩⟩; (try first | exact ⟨rfl, _, World.drewN_drewN _ _ _⟩ | exact ⟨rfl, _, Eq.trans (World.drewN_drewN _ _ _) (congrArg (World.drewN _) (Nat.add_assoc _ _ _))⟩))))
 go_loopg [0, 1] k (fun kq v0 v1 w' => ∃ (x0_1 : Int) (x1_1 : Int), v0 = .int .i64 x0_1 ∧ v1 = .int .i64 x1_1 ∧ Aside0 (spec_l1Divisor.l0 kq x0_1 x1_1 = some r) ∧ Aside0 (kq ≤ k) ∧ Drawn0 w w')
 case atStart => exact ⟨(t340), (t341), (g3_), (g3_), H', ⟨Nat.le_refl _⟩, g5_⟩
 case round =>
  clear H'
  try clear p2
  obtain ⟨x0_1, x1_1, rfl, rfl, HA, HK1, ⟨m1, rfl⟩⟩ := hrel
  cases gk with
  | zero => exact absurd HA.out (by simp [spec_l1Divisor.l0])
  | succ k1 =>
   have H := HA.out
   clear HA
   simp only [spec_l1Divisor.l0] at H
   by_cases c5 : x1_1 > 0
   ·rw [if_pos c5] at H
    have c5b0 := decide_eq_true c5
    clear c5
    by_cases c6 : x1_1 = 0
    ·rw [if_pos c6] at H
     exact absurd H (by simp)
    ·rw [if_neg c6] at H
     have c6b0 : (x1_1 == 0) = false := beq_eq_false_iff_ne.mpr c6
     have c6b1 : (x1_1 != 0) = true := bne_iff_ne.mpr c6
     have H' := Aside0.mk H
     clear H
     go_wp2
     repeat (go_quiet (fail); try go_wp2)
     go_roundg k1
     case measure => have := HK1.out; omega
     case rel => exact ⟨(x1_1), (Int.tmod x0_1 x1_1), (g3_), (g3_), H', ⟨g9_⟩, g5_⟩
   ·rw [if_neg c5] at H
    have c5b0 := decide_eq_false c5
    clear c5
    obtain rfl := Option.some.inj H
    go_wp2
    repeat (go_quiet (fail); try go_wp2)
    go_ret
    exact ⟨g3_, g5_⟩
def spec_FracOk.f (k : Nat) (a0_0 : Int) (a0_1 : Int) : Option (Bool) := (spec_l1In.f a0_1 1 1000000000).bind fun t343 => (if t343 = true then ((spec_l1In.f a0_0 (-1000000000) 1000000000).bind fun t344 => (if t344 = true then ((spec_l1Divisor.f k a0_0 a0_1).bind fun t345 => (some (t345 == 1))) else (some false))) else (some false))
theorem spec_FracOk.mq {p : Prop} (h : p := by
 repeat' first
 | (with_reducible exact spec_l1Divisor.mono _ _ _)
 | (with_reducible exact LeO.refl _)
 | (with_reducible exact LeO.none _)
 | (with_reducible refine LeO.ite ?_ ?_)
 | (with_reducible refine LeO.bind ?_ (fun _ => ?_))
 | exact spec_l1Divisor.mono _ _ _
 | exact LeO.none _
 | refine LeO.ite ?_ ?_
 | refine LeO.bind ?_ (fun _ => ?_)) : p := h
theorem spec_FracOk.mono : ∀ a0 a1 k, LeO (spec_FracOk.f k a0 a1) (spec_FracOk.f (k + 1) a0 a1) := by
 intro a0 a1 k
 unfold spec_FracOk.f
 exact spec_FracOk.mq
theorem qz12_ {p : Prop} (h : p := by repeat (first | (with_reducible first | exact HB.out | apply below_alloc | apply pw_below_drewN | apply below_drew1 | refine below_set ?_ GE342.out) | exact HB.out)) : p := h
set_option maxHeartbeats 8000000 in
set_option maxRecDepth 100000 in
theorem spec_FracOk.calls (k : Nat) (a0_0 : Int) (a0_1 : Int) (r : Bool) (w : World) (h : spec_FracOk.f k a0_0 a0_1 = some r) :
  Calls Try.prog 63 #[.agg #[.int .i64 a0_0, .int .i64 a0_1]] w fun e w' => e = .returned (.bool r) ∧ Below w.heap.size w w' := by
 have hu36 := Try.underlying36
 have HB := Aside0.mk (Below.refl w.heap.size w)
 have H : ((spec_l1In.f a0_1 1 1000000000).bind fun t343 => (if t343 = true then ((spec_l1In.f a0_0 (-1000000000) 1000000000).bind fun t344 => (if t344 = true then ((spec_l1Divisor.f k a0_0 a0_1).bind fun t345 => (some (t345 == 1))) else (some false))) else (some false))) = some r := h
 clear h
 obtain ⟨t343, A2, H⟩ := bind_ H
 by_cases c3 : t343 = true
 ·subst c3
  replace H := ifp_ H
  obtain ⟨t344, A4, H⟩ := bind_ H
  by_cases c5 : t344 = true
  ·subst c5
   replace H := ifp_ H
   obtain ⟨t345, A6, H⟩ := bind_ H
   obtain rfl := Option.some.inj H
   go_enter Try.func63, Try.ntmps63
   go_wp2_with (first | ((with_reducible refine gate_dst (N := 1) rfl ?_); refine bx_ (N := 1) #[.int .i64 a0_0, .int .i64 a0_1] 36 ?_; intro gb342 hg w7 hbox hb; have BK342 := Aside0.mk (hbox); have GW342 := Aside0.mk ((g63_ : w.heap.size ≤ gb342)); have GE342 := Aside0.mk ((g63_ : w.heap.size ≤ gb342)); replace HB := Aside0.mk (below_step (qz12_) hb); clear hb hbox hg; obtain ⟨hcz8_0, hcz8_1, hfz8_0, hfz8_1⟩ := blk2_ BK342) | ((with_reducible refine gate_callee (f := 90) rfl ?_); refine goesL_ (some 5) rfl rfl Try.func90 k_ rfl #[.int .i64 a0_1, .int .i64 1, .int .i64 1000000000] rfl (g2_) ?_; (with_reducible refine (spec_l1In.calls a0_1 1 1000000000 true _ A2.out).mono ?_); rintro e w' ⟨rfl, ⟨nd, rfl⟩⟩; refine ⟨_, rfl, ?_⟩) | (go_at_call 90; (with_reducible refine (spec_l1In.calls a0_0 (-1000000000) 1000000000 true _ A4.out).mono ?_); rintro e w' ⟨rfl, ⟨nd, rfl⟩⟩) | (go_at_call 94; (with_reducible refine (spec_l1Divisor.calls k a0_0 a0_1 t345 _ A6.out).mono ?_); rintro e w' ⟨rfl, ⟨nd, rfl⟩⟩))
   go_ret
   exact ⟨g4_, qz12_⟩
  ·replace c5 := Bool.eq_false_iff.mpr c5
   subst c5
   replace H := ifn_ H
   obtain rfl := Option.some.inj H
   go_enter Try.func63, Try.ntmps63
   go_wp2_with (first | ((with_reducible refine gate_dst (N := 1) rfl ?_); refine bx_ (N := 1) #[.int .i64 a0_0, .int .i64 a0_1] 36 ?_; intro gb342 hg w9 hbox hb; have BK342 := Aside0.mk (hbox); have GW342 := Aside0.mk ((g63_ : w.heap.size ≤ gb342)); have GE342 := Aside0.mk ((g63_ : w.heap.size ≤ gb342)); replace HB := Aside0.mk (below_step (qz12_) hb); clear hb hbox hg; obtain ⟨hcz10_0, hcz10_1, hfz10_0, hfz10_1⟩ := blk2_ BK342) | ((with_reducible refine gate_callee (f := 90) rfl ?_); refine goesL_ (some 5) rfl rfl Try.func90 k_ rfl #[.int .i64 a0_1, .int .i64 1, .int .i64 1000000000] rfl (g2_) ?_; (with_reducible refine (spec_l1In.calls a0_1 1 1000000000 true _ A2.out).mono ?_); rintro e w' ⟨rfl, ⟨nd, rfl⟩⟩; refine ⟨_, rfl, ?_⟩) | (go_at_call 90; (with_reducible refine (spec_l1In.calls a0_0 (-1000000000) 1000000000 false _ A4.out).mono ?_); rintro e w' ⟨rfl, ⟨nd, rfl⟩⟩))
   go_ret
   exact ⟨g4_, qz12_⟩
 ·replace c3 := Bool.eq_false_iff.mpr c3
  subst c3
  replace H := ifn_ H
  obtain rfl := Option.some.inj H
  go_enter Try.func63, Try.ntmps63
  go_wp2_with (first | ((with_reducible refine gate_dst (N := 1) rfl ?_); refine bx_ (N := 1) #[.int .i64 a0_0, .int .i64 a0_1] 36 ?_; intro gb342 hg w11 hbox hb; have BK342 := Aside0.mk (hbox); have GW342 := Aside0.mk ((g63_ : w.heap.size ≤ gb342)); have GE342 := Aside0.mk ((g63_ : w.heap.size ≤ gb342)); replace HB := Aside0.mk (below_step (qz12_) hb); clear hb hbox hg; obtain ⟨hcz12_0, hcz12_1, hfz12_0, hfz12_1⟩ := blk2_ BK342) | ((with_reducible refine gate_callee (f := 90) rfl ?_); refine goesL_ (some 5) rfl rfl Try.func90 k_ rfl #[.int .i64 a0_1, .int .i64 1, .int .i64 1000000000] rfl (g2_) ?_; (with_reducible refine (spec_l1In.calls a0_1 1 1000000000 false _ A2.out).mono ?_); rintro e w' ⟨rfl, ⟨nd, rfl⟩⟩; refine ⟨_, rfl, ?_⟩))
  go_ret
  exact ⟨g4_, qz12_⟩
def spec_l1Low.j0 : Nat → Int → Int → Option (Int × Int × Bool)
 | 0, _, _ => none
 | k + 1, x0, x1 => (spec_l1Divisor.f k x0 x1).bind fun t445 => (if t445 = 0 then (none) else ((spec_FracOk.f k (wrap64 (Int.tdiv x0 t445)) (wrap64 (Int.tdiv x1 t445))).bind fun t447 => (if t447 = true then (some (wrap64 (Int.tdiv x0 t445), wrap64 (Int.tdiv x1 t445), true)) else (some (0, 0, false)))))
def spec_l1Low.f (k : Nat) (a0 : Int) (a1 : Int) : Option (Int × Int × Bool) := if a1 < 0 then (spec_l1Low.j0 k (wrap64 (-a0)) (wrap64 (-a1))) else (spec_l1Low.j0 k a0 a1)
theorem spec_l1Low.mq {p : Prop} (h : p := by
 repeat' first
 | (with_reducible exact ih0 _ _)
 | (with_reducible exact spec_FracOk.mono _ _ _)
 | (with_reducible exact spec_l1Divisor.mono _ _ _)
 | (with_reducible exact LeO.refl _)
 | (with_reducible exact LeO.none _)
 | (with_reducible refine LeO.ite ?_ ?_)
 | (with_reducible refine LeO.bind ?_ (fun _ => ?_))
 | exact ih0 _ _
 | exact spec_FracOk.mono _ _ _
 | exact spec_l1Divisor.mono _ _ _
 | exact LeO.none _
 | refine LeO.ite ?_ ?_
 | refine LeO.bind ?_ (fun _ => ?_)) : p := h
theorem spec_l1Low.mono_l : ∀ k, (∀ y0 y1, LeO (spec_l1Low.j0 k y0 y1) (spec_l1Low.j0 (k + 1) y0 y1))
 | 0 => fun _ _ r h => by simp [spec_l1Low.j0] at h
 | k + 1 => by
  have ih0 := spec_l1Low.mono_l k
  ·intro y0 y1
   unfold spec_l1Low.j0
   exact spec_l1Low.mq
theorem spec_l1Low.mono : ∀ a0 a1 k, LeO (spec_l1Low.f k a0 a1) (spec_l1Low.f (k + 1) a0 a1) := by
 intro a0 a1 k
 have ih0 := spec_l1Low.mono_l k
 unfold spec_l1Low.f
 exact spec_l1Low.mq
def spec_l1Low.T5 : Bool × List (List Nat × List Nat) := (true, [([], []), ([], []), ([0, 1], [0, 1]), ([], []), ([], []), ([3, 4], [3, 4]), ([2, 5], [2, 5]), ([], []), ([7, 6, 0, 1, 2, 3, 4, 5, 6, 7], [6, 7])])
def spec_l1Low.B5 : List Nat := [0, 0, 3, 0, 0, 24, 63, 0, 255]
theorem spec_l1Low.tab5 : rtab .any (opsOf Try.f95 5) = spec_l1Low.T5 := by kernel_rfl
theorem spec_l1Low.bits5 : waitsOk spec_l1Low.T5.2 spec_l1Low.B5 = true := by kernel_rfl
theorem qz13_ {p : Prop} (h : p := by repeat (first | (with_reducible first | exact HB.out | apply below_alloc | apply pw_below_drewN | apply below_drew1 | refine below_set ?_ GE444.out | refine below_set ?_ GE446.out) | exact HB.out)) : p := h
set_option maxHeartbeats 8000000 in
set_option maxRecDepth 100000 in
theorem spec_l1Low.calls (k : Nat) (a0 : Int) (a1 : Int) (r1 : Int) (r2 : Int) (r3 : Bool) (w : World) (h : spec_l1Low.f k a0 a1 = some (r1, r2, r3)) :
  Calls Try.prog 95 #[.int .i64 a0, .int .i64 a1] w fun e w' => e = .returned (.tuple #[.agg #[.int .i64 r1, .int .i64 r2], .bool r3]) ∧ Below w.heap.size w w' := by
 have hu36 := Try.underlying36
 have HB := Aside0.mk (Below.refl w.heap.size w)
 have H : (if a1 < 0 then (spec_l1Low.j0 k (wrap64 (-a0)) (wrap64 (-a1))) else (spec_l1Low.j0 k a0 a1)) = some (r1, r2, r3) := h
 clear h
 have HC3 := Aside0.mk H
 clear H
 go_enter Try.func95, Try.ntmps95
 go_upto_if 9 with (first | ((with_reducible refine gate_dst (N := 4) rfl ?_); refine bx_ (N := 4) #[.int .i64 0, .int .i64 0] 36 ?_; intro gb444 hg w4 hbox hb; have BK444 := Aside0.mk (hbox); have GW444 := Aside0.mk ((g66_ : w.heap.size ≤ gb444)); have GE444 := Aside0.mk ((g66_ : w.heap.size ≤ gb444)); replace HB := Aside0.mk (below_step (qz13_) hb); clear hb hbox hg))
 (try simp only [Act.put, List.setIfInBounds_toArray, List.set_cons_zero, List.set_cons_succ])
 go_cut [0, 1] (fun v0 v1 wc => ∃ (kq : Nat) (x0_2 : Int) (x1_2 : Int), v0 = .int .i64 x0_2 ∧ v1 = .int .i64 x1_2 ∧ Aside0 (spec_l1Low.j0 kq x0_2 x1_2 = some (r1, r2, r3)) ∧ Aside0 (kq ≤ k) ∧ Aside0 (wc.heap[gb444]? = some (.cells #[.int .i64 0, .int .i64 0] 36 (0, 0))) ∧ Aside0 (Below w.heap.size w wc))
 case first =>
  have H := HC3.out
  clear HC3
  by_cases c5 : a1 < 0
  ·rw [if_pos c5] at H
   have c5b0 := decide_eq_true c5
   clear c5
   (first | rw [c5b0] | (simp only [i64_w, i32_w]; rw [c5b0]) | skip)
   have H' := Aside0.mk H
   clear H
   go_wp2
   go_meet
   case rel => exact ⟨_, (wrap64 (-a0)), (wrap64 (-a1)), (g3_), (g3_), H', ⟨g13_⟩, ⟨uf0_ BK444⟩, ⟨qz13_⟩⟩
  ·rw [if_neg c5] at H
   have c5b0 := decide_eq_false c5
   clear c5
   (first | rw [c5b0] | (simp only [i64_w, i32_w]; rw [c5b0]) | skip)
   have H' := Aside0.mk H
   clear H
   go_wp2
   go_meet
   case rel => exact ⟨_, (a0), (a1), (g3_), (g3_), H', ⟨g13_⟩, ⟨uf0_ BK444⟩, ⟨qz13_⟩⟩
 case rest =>
  clear HC3
  try clear p2
  try clear c5
  try clear c5b0
  obtain ⟨kq, x0_2, x1_2, rfl, rfl, HA, HJ2, BK444, HB⟩ := hcut
  cases kq with
  | zero => exact absurd HA.out (by simp [spec_l1Low.j0])
  | succ kj2 =>
   have H := HA.out
   clear HA
   simp only [spec_l1Low.j0] at H
   obtain ⟨t445, A6, H⟩ := bind_ H
   by_cases c7 : t445 = 0
   ·rw [if_pos c7] at H
    exact absurd H (by simp)
   ·rw [if_neg c7] at H
    have c7b0 : (t445 == 0) = false := beq_eq_false_iff_ne.mpr c7
    have c7b1 : (t445 != 0) = true := bne_iff_ne.mpr c7
    obtain ⟨t447, A8, H⟩ := bind_ H
    by_cases c9 : t447 = true
    ·subst c9
     replace H := ifp_ H
     simp only [Option.some.injEq, Prod.mk.injEq] at H
     obtain ⟨rfl, rfl, rfl⟩ := H
     try go_wp2_with (first | ((with_reducible refine gate_callee (f := 94) rfl ?_); refine goesL_ (some 16) rfl rfl Try.func94 k_ rfl #[.int .i64 x0_2, .int .i64 x1_2] rfl (g2_) ?_; (with_reducible refine (spec_l1Divisor.calls kj2 x0_2 x1_2 t445 _ A6.out).mono ?_); rintro e w' ⟨rfl, ⟨nd, rfl⟩⟩; refine ⟨_, rfl, ?_⟩; (try (rw [drewN_self wc]; generalize hq_ : World.drewN wc _ = wc; replace BK444 : Aside0 (wc.heap[gb444]? = some (.cells #[.int .i64 0, .int .i64 0] 36 (0, 0))) := ⟨by rw [← hq_]; exact (uf0_ BK444)⟩; replace HB : Aside0 (Below w.heap.size w wc) := ⟨by rw [← hq_]; exact (qz13_)⟩; clear hq_))))
     replace BK444 := Aside0.mk (blk_drew BK444.out)
     replace HB := Aside0.mk (below_drew1 HB.out)
     refine start_ (n := 9) (S := fun w' => True) (ds := []) (tl_ 9 0) (g0_) rfl (g0_) trivial (fun hHeld => ?_); refine with_tabW spec_l1Low.tab5 spec_l1Low.bits5 (fun HT_ HW_ => ?_)
     generalize wc.drew = w10 at BK444 HB hHeld ⊢
     refine pw_ 0 17 (tl_ 9 1) rfl rfl ?_
     refine pw_ 1 18 (tl_ 9 3) rfl rfl ?_
     refine pw_ 2 19 (tl_ 9 7) rfl rfl ?_
     refine pw_ 3 20 (tl_ 9 15) rfl rfl ?_
     refine pw_ 4 21 (tl_ 9 31) rfl rfl ?_
     refine pw_ 5 22 (tl_ 9 63) rfl rfl ?_
     refine pw_ 6 23 (tl_ 9 127) rfl rfl ?_
     refine one_ (i := 7) (N := some 7) (tl_ 9 255) rfl rfl (one_of HT_.out (g0_)) (by decide) (fun K hK => ?_)
     refine bs_ (N := 7) #[.int .i64 0, .int .i64 0] 36 ?_
     intro gb446 hg w11 hbox hb
     have BK446 := Aside0.mk (hbox)
     have GW446 := Aside0.mk ((g66_ : w.heap.size ≤ gb446))
     have GE446 := Aside0.mk ((g66_ : w.heap.size ≤ gb446))
     replace HB := Aside0.mk (below_step (qz13_) hb)
     have NB444_446 := Aside0.mk ((by rw [hg]; exact Nat.ne_of_lt (blk_lt (g := gb444) (o := .cells #[.int .i64 0, .int .i64 0] 36 (0, 0)) (uf0_ BK444)) : gb444 ≠ gb446))
     have NB446_444 := Aside0.mk ((by rw [hg]; exact Nat.ne_of_gt (blk_lt (g := gb444) (o := .cells #[.int .i64 0, .int .i64 0] 36 (0, 0)) (uf0_ BK444)) : gb446 ≠ gb444))
     replace BK444 := bb_ BK444 hb
     clear hb hbox hg
     refine hK.out _ _ trivial (fun hHeld => ?_)
     clear hK K
     refine nm_ ?_
     refine one_ (i := 8) (N := none) (tl_ 9 511) rfl rfl (one_of HT_.out (g0_)) (by decide) (fun K hK => ?_)
     have hs12 : w11.cell? ⟨gb446, 0, none⟩ = some (.int .i64 0) := (blk_cell BK446.out 0).trans rfl
     have hfs12 := blk_frozen BK446.out 0
     have hns12_0 := NB444_446.out
     have hms12_0 := NB446_444.out
     have hs13 : w11.cell? ⟨gb446, 1, none⟩ = some (.int .i64 0) := (blk_cell BK446.out 1).trans rfl
     have hfs13 := blk_frozen BK446.out 1
     have hns13_0 := NB444_446.out
     have hms13_0 := NB446_444.out
     refine skip_ (w1 := ?_) (by rfl) rfl ?_ ?_
     rotate_left
     ·go_simp
      rfl
     refine hK.out _ _ trivial (fun hHeld => ?_)
     clear hK K
     refine done_ (done_of HT_.out (g0_)) ?_
     have hnb14 := NB446_444.out
     have hnc14 := NB444_446.out
     obtain ⟨hcz15_0, hcz15_1, hfz15_0, hfz15_1⟩ := blk2_ BK446
     try go_wp2_with (first | ((with_reducible refine gate_callee (f := 63) rfl ?_); refine goesL_ (some 25) rfl rfl Try.func63 k_ rfl #[.agg #[.int .i64 (wrap64 (Int.tdiv x0_2 t445)), .int .i64 (wrap64 (Int.tdiv x1_2 t445))]] rfl (g2_) ?_; (with_reducible refine (spec_FracOk.calls kj2 (wrap64 (Int.tdiv x0_2 t445)) (wrap64 (Int.tdiv x1_2 t445)) true _ A8.out).mono ?_); rintro e w16 ⟨rfl, hb⟩; refine ⟨_, rfl, ?_⟩; replace BK444 := Aside0.mk (blk_below (g := gb444) (o := .cells #[.int .i64 0, .int .i64 0] 36 (0, 0)) (by (with_reducible repeat (first | refine blk_drewN ?_ _ | refine blk_drew ?_ | refine blk_alloc ?_ _)); refine blk_far ?_ NB444_446.out _; (with_reducible repeat (first | refine blk_drewN ?_ _ | refine blk_drew ?_ | refine blk_alloc ?_ _)); refine blk_far ?_ NB444_446.out _; (with_reducible repeat (first | refine blk_drewN ?_ _ | refine blk_drew ?_ | refine blk_alloc ?_ _)); exact BK444.out) hb); replace BK446 := Aside0.mk (blk_below (g := gb446) (o := .cells #[.int .i64 (wrap64 (Int.tdiv x0_2 t445)), .int .i64 (wrap64 (Int.tdiv x1_2 t445))] 36 (0, 0)) (by (with_reducible repeat (first | refine blk_drewN ?_ _ | refine blk_drew ?_ | refine blk_alloc ?_ _)); refine blk_put (cs := #[.int .i64 (wrap64 (Int.tdiv x0_2 t445)), .int .i64 0]) ?_ 1 _ rfl; (with_reducible repeat (first | refine blk_drewN ?_ _ | refine blk_drew ?_ | refine blk_alloc ?_ _)); refine blk_put (cs := #[.int .i64 0, .int .i64 0]) ?_ 0 _ rfl; (with_reducible repeat (first | refine blk_drewN ?_ _ | refine blk_drew ?_ | refine blk_alloc ?_ _)); exact BK446.out) hb); replace HB := Aside0.mk (below_step (qz13_) hb); (try clear hb); (try clear hk hi); obtain ⟨hcz17_0, hcz17_1, hfz17_0, hfz17_1⟩ := blk2_ BK446; obtain ⟨hcz18_0, hcz18_1, hfz18_0, hfz18_1⟩ := blk2_ BK444))
     refine bodyPost_ret (results_ct rfl _ _ gb444 36 #[.int .i64 (wrap64 (Int.tdiv x0_2 t445)), .int .i64 (wrap64 (Int.tdiv x1_2 t445))] (0, 0) _ rfl (by (with_reducible repeat (first | refine blk_drewN ?_ _ | refine blk_drew ?_ | refine blk_alloc ?_ _)); refine blk_put (cs := #[.int .i64 (wrap64 (Int.tdiv x0_2 t445)), .int .i64 0]) ?_ 1 _ rfl; (with_reducible repeat (first | refine blk_drewN ?_ _ | refine blk_drew ?_ | refine blk_alloc ?_ _)); refine blk_put (cs := #[.int .i64 0, .int .i64 0]) ?_ 0 _ rfl; (with_reducible repeat (first | refine blk_drewN ?_ _ | refine blk_drew ?_ | refine blk_alloc ?_ _)); exact BK444.out) Try.underlying36 rfl (g0_)) rfl ?_
     exact ⟨g4_, qz13_⟩
    ·replace c9 := Bool.eq_false_iff.mpr c9
     subst c9
     replace H := ifn_ H
     simp only [Option.some.injEq, Prod.mk.injEq] at H
     obtain ⟨rfl, rfl, rfl⟩ := H
     try go_wp2_with (first | ((with_reducible refine gate_callee (f := 94) rfl ?_); refine goesL_ (some 16) rfl rfl Try.func94 k_ rfl #[.int .i64 x0_2, .int .i64 x1_2] rfl (g2_) ?_; (with_reducible refine (spec_l1Divisor.calls kj2 x0_2 x1_2 t445 _ A6.out).mono ?_); rintro e w' ⟨rfl, ⟨nd, rfl⟩⟩; refine ⟨_, rfl, ?_⟩; (try (rw [drewN_self wc]; generalize hq_ : World.drewN wc _ = wc; replace BK444 : Aside0 (wc.heap[gb444]? = some (.cells #[.int .i64 0, .int .i64 0] 36 (0, 0))) := ⟨by rw [← hq_]; exact (uf0_ BK444)⟩; replace HB : Aside0 (Below w.heap.size w wc) := ⟨by rw [← hq_]; exact (qz13_)⟩; clear hq_))))
     replace BK444 := Aside0.mk (blk_drew BK444.out)
     replace HB := Aside0.mk (below_drew1 HB.out)
     refine start_ (n := 9) (S := fun w' => True) (ds := []) (tl_ 9 0) (g0_) rfl (g0_) trivial (fun hHeld => ?_); refine with_tabW spec_l1Low.tab5 spec_l1Low.bits5 (fun HT_ HW_ => ?_)
     generalize wc.drew = w19 at BK444 HB hHeld ⊢
     refine pw_ 0 17 (tl_ 9 1) rfl rfl ?_
     refine pw_ 1 18 (tl_ 9 3) rfl rfl ?_
     refine pw_ 2 19 (tl_ 9 7) rfl rfl ?_
     refine pw_ 3 20 (tl_ 9 15) rfl rfl ?_
     refine pw_ 4 21 (tl_ 9 31) rfl rfl ?_
     refine pw_ 5 22 (tl_ 9 63) rfl rfl ?_
     refine pw_ 6 23 (tl_ 9 127) rfl rfl ?_
     refine one_ (i := 7) (N := some 7) (tl_ 9 255) rfl rfl (one_of HT_.out (g0_)) (by decide) (fun K hK => ?_)
     refine bs_ (N := 7) #[.int .i64 0, .int .i64 0] 36 ?_
     intro gb446 hg w20 hbox hb
     have BK446 := Aside0.mk (hbox)
     have GW446 := Aside0.mk ((g66_ : w.heap.size ≤ gb446))
     have GE446 := Aside0.mk ((g66_ : w.heap.size ≤ gb446))
     replace HB := Aside0.mk (below_step (qz13_) hb)
     have NB444_446 := Aside0.mk ((by rw [hg]; exact Nat.ne_of_lt (blk_lt (g := gb444) (o := .cells #[.int .i64 0, .int .i64 0] 36 (0, 0)) (uf0_ BK444)) : gb444 ≠ gb446))
     have NB446_444 := Aside0.mk ((by rw [hg]; exact Nat.ne_of_gt (blk_lt (g := gb444) (o := .cells #[.int .i64 0, .int .i64 0] 36 (0, 0)) (uf0_ BK444)) : gb446 ≠ gb444))
     replace BK444 := bb_ BK444 hb
     clear hb hbox hg
     refine hK.out _ _ trivial (fun hHeld => ?_)
     clear hK K
     refine nm_ ?_
     refine one_ (i := 8) (N := none) (tl_ 9 511) rfl rfl (one_of HT_.out (g0_)) (by decide) (fun K hK => ?_)
     have hs21 : w20.cell? ⟨gb446, 0, none⟩ = some (.int .i64 0) := (blk_cell BK446.out 0).trans rfl
     have hfs21 := blk_frozen BK446.out 0
     have hns21_0 := NB444_446.out
     have hms21_0 := NB446_444.out
     have hs22 : w20.cell? ⟨gb446, 1, none⟩ = some (.int .i64 0) := (blk_cell BK446.out 1).trans rfl
     have hfs22 := blk_frozen BK446.out 1
     have hns22_0 := NB444_446.out
     have hms22_0 := NB446_444.out
     refine skip_ (w1 := ?_) (by rfl) rfl ?_ ?_
     rotate_left
     ·go_simp
      rfl
     refine hK.out _ _ trivial (fun hHeld => ?_)
     clear hK K
     refine done_ (done_of HT_.out (g0_)) ?_
     have hnb23 := NB446_444.out
     have hnc23 := NB444_446.out
     obtain ⟨hcz24_0, hcz24_1, hfz24_0, hfz24_1⟩ := blk2_ BK446
     try go_wp2_with (first | ((with_reducible refine gate_callee (f := 63) rfl ?_); refine goesL_ (some 25) rfl rfl Try.func63 k_ rfl #[.agg #[.int .i64 (wrap64 (Int.tdiv x0_2 t445)), .int .i64 (wrap64 (Int.tdiv x1_2 t445))]] rfl (g2_) ?_; (with_reducible refine (spec_FracOk.calls kj2 (wrap64 (Int.tdiv x0_2 t445)) (wrap64 (Int.tdiv x1_2 t445)) false _ A8.out).mono ?_); rintro e w25 ⟨rfl, hb⟩; refine ⟨_, rfl, ?_⟩; replace BK444 := Aside0.mk (blk_below (g := gb444) (o := .cells #[.int .i64 0, .int .i64 0] 36 (0, 0)) (by (with_reducible repeat (first | refine blk_drewN ?_ _ | refine blk_drew ?_ | refine blk_alloc ?_ _)); refine blk_far ?_ NB444_446.out _; (with_reducible repeat (first | refine blk_drewN ?_ _ | refine blk_drew ?_ | refine blk_alloc ?_ _)); refine blk_far ?_ NB444_446.out _; (with_reducible repeat (first | refine blk_drewN ?_ _ | refine blk_drew ?_ | refine blk_alloc ?_ _)); exact BK444.out) hb); replace BK446 := Aside0.mk (blk_below (g := gb446) (o := .cells #[.int .i64 (wrap64 (Int.tdiv x0_2 t445)), .int .i64 (wrap64 (Int.tdiv x1_2 t445))] 36 (0, 0)) (by (with_reducible repeat (first | refine blk_drewN ?_ _ | refine blk_drew ?_ | refine blk_alloc ?_ _)); refine blk_put (cs := #[.int .i64 (wrap64 (Int.tdiv x0_2 t445)), .int .i64 0]) ?_ 1 _ rfl; (with_reducible repeat (first | refine blk_drewN ?_ _ | refine blk_drew ?_ | refine blk_alloc ?_ _)); refine blk_put (cs := #[.int .i64 0, .int .i64 0]) ?_ 0 _ rfl; (with_reducible repeat (first | refine blk_drewN ?_ _ | refine blk_drew ?_ | refine blk_alloc ?_ _)); exact BK446.out) hb); replace HB := Aside0.mk (below_step (qz13_) hb); (try clear hb); (try clear hk hi); obtain ⟨hcz26_0, hcz26_1, hfz26_0, hfz26_1⟩ := blk2_ BK444))
     refine bodyPost_ret (results_ct rfl _ _ gb444 36 #[.int .i64 0, .int .i64 0] (0, 0) _ rfl (by (with_reducible repeat (first | refine blk_drewN ?_ _ | refine blk_drew ?_ | refine blk_alloc ?_ _)); refine blk_put (cs := #[.int .i64 0, .int .i64 0]) ?_ 1 _ rfl; (with_reducible repeat (first | refine blk_drewN ?_ _ | refine blk_drew ?_ | refine blk_alloc ?_ _)); refine blk_put (cs := #[.int .i64 0, .int .i64 0]) ?_ 0 _ rfl; (with_reducible repeat (first | refine blk_drewN ?_ _ | refine blk_drew ?_ | refine blk_alloc ?_ _)); exact BK444.out) Try.underlying36 rfl (g0_)) rfl ?_
     exact ⟨g4_, qz13_⟩
def spec_l20Pays.l0 : Nat → Int → List (S36) → List Int → Int → List Int → Int → Option ((List (S36)) × Int)
 | 0, _, _, _, _, _, _ => none
 | k + 1, x2, x7, x8, x9, x1000, x1001 => if x9 < (x8.length : Int) then (if 0 ≤ x9 then ((spec_l20Rd_pick.f k x1000 x1001 (wrap64 ((wrap64 ((rd x8 x9) * 6)) + 1))).bind fun bt456 => ((spec_l1Low.f k bt456.1 6).bind fun bt458 => ((spec_l20Rd_pick.f k x1000 bt456.2 4).bind fun bt462 => (if bt462.1 = 0 then (if x7.length < 8796093022208 then (spec_l20Pays.l0 k x2 (x7 ++ [(⟨rd x8 x9, 1⟩ : S36)]) x8 (wrap64 (x9 + 1)) x1000 bt462.2) else (none)) else (if bt462.1 = 1 then ((spec_l20Rd_pick.f k x1000 bt462.2 (wrap64 ((rd x8 x9) + 1))).bind fun bt469 => (if x7.length < 8796093022208 then (spec_l20Pays.l0 k x2 (x7 ++ [(⟨bt469.1, 1⟩ : S36)]) x8 (wrap64 (x9 + 1)) x1000 bt469.2) else (none))) else (if x7.length < 8796093022208 then (spec_l20Pays.l0 k x2 (x7 ++ [(⟨bt458.1, bt458.2.1⟩ : S36)]) x8 (wrap64 (x9 + 1)) x1000 bt462.2) else (none))))))) else (none)) else ((spec_l20Rd_odd.f k x1000 x1001 x2).bind fun bt477 => (if bt477.1 = true then (if (x7.length : Int) = 0 then (if x7.length < 8796093022208 then (some ((x7 ++ [(⟨0, 1⟩ : S36)]), bt477.2)) else (none)) else ((spec_l20Rd_pick.f k x1000 bt477.2 2).bind fun bt482 => (if bt482.1 = 0 then (if x7.length < 8796093022208 then (some ((x7 ++ [(⟨0, 1⟩ : S36)]), bt482.2)) else (none)) else ((some (([(⟨0, 0⟩ : S36), (⟨(-1), 1⟩ : S36), (⟨100, 1⟩ : S36)] : List (S36)) : List (S36))).bind fun y487 => ((spec_l20Rd_pick.f k x1000 bt482.2 3).bind fun bt490 => (if 0 ≤ bt490.1 then (if bt490.1 < (y487.length : Int) then (if 0 < (x7.length : Int) then (some ((x7.set (0 : Int).toNat (⟨(rd_T36 y487 bt490.1).f0, (rd_T36 y487 bt490.1).f1⟩ : S36)), bt490.2)) else (none)) else (none)) else (none))))))) else (some (x7, bt477.2))))
def spec_l20Pays.f (k : Nat) (s0_0 : List Int) (s0_1 : Int) (l1_0 : List Int) (l1_1 : List (List Int)) (a2 : Int) : Option ((List (S36)) × Int) := (spec_OwesOf.f k l1_0 l1_1).bind fun t452 => (spec_l20Pays.l0 k a2 (([] : List (S36))) t452 0 s0_0 s0_1)
theorem spec_l20Pays.mq {p : Prop} (h : p := by
 repeat' first
 | (with_reducible exact ih0 _ _ _ _ _ _)
 | (with_reducible exact spec_OwesOf.mono _ _ _)
 | (with_reducible exact spec_l1Low.mono _ _ _)
 | (with_reducible exact spec_l20Rd_odd.mono _ _ _ _)
 | (with_reducible exact spec_l20Rd_pick.mono _ _ _ _)
 | (with_reducible exact LeO.refl _)
 | (with_reducible exact LeO.none _)
 | (with_reducible refine LeO.ite ?_ ?_)
 | (with_reducible refine LeO.bind ?_ (fun _ => ?_))
 | exact ih0 _ _ _ _ _ _
 | exact spec_OwesOf.mono _ _ _
 | exact spec_l1Low.mono _ _ _
 | exact spec_l20Rd_odd.mono _ _ _ _
 | exact spec_l20Rd_pick.mono _ _ _ _
 | exact LeO.none _
 | refine LeO.ite ?_ ?_
 | refine LeO.bind ?_ (fun _ => ?_)) : p := h
theorem spec_l20Pays.mono_l : ∀ k, (∀ y0 y1 y2 y3 y4 y5, LeO (spec_l20Pays.l0 k y0 y1 y2 y3 y4 y5) (spec_l20Pays.l0 (k + 1) y0 y1 y2 y3 y4 y5))
 | 0 => fun _ _ _ _ _ _ r h => by simp [spec_l20Pays.l0] at h
 | k + 1 => by
  have ih0 := spec_l20Pays.mono_l k
  ·intro y0 y1 y2 y3 y4 y5
   unfold spec_l20Pays.l0
   exact spec_l20Pays.mq
theorem spec_l20Pays.mono : ∀ a0 a1 a2 a3 a4 k, LeO (spec_l20Pays.f k a0 a1 a2 a3 a4) (spec_l20Pays.f (k + 1) a0 a1 a2 a3 a4) := by
 intro a0 a1 a2 a3 a4 k
 have ih0 := spec_l20Pays.mono_l k
 unfold spec_l20Pays.f
 exact spec_l20Pays.mq
theorem qz45_ {p : Prop} (h : p := by repeat (first | (with_reducible first | exact HI0.out | apply IsS79.alloc | apply IsS79.drewN | apply IsS79.drew | apply IsS79.set_1 | refine IsS79.far ?_ NB0_448.out _ | refine IsS79.far ?_ NB0_461.out _) | exact HI0.out)) : p := h
theorem qz7_ {p : Prop} (h : p := by repeat (first | (with_reducible first | exact HK.out | apply KeepBut.set_ | apply keep_drewN | apply keep_drew | apply keep_alloc | refine keep_far ?_ GW448.out _ | refine keep_far ?_ GW461.out _) | exact HK.out)) : p := h
theorem qz46_ {p : Prop} (h : p := by repeat (first | (with_reducible first | exact HB.out | apply below_alloc | apply pw_below_drewN | apply below_drew1 | refine below_set ?_ (IsS79.ge HI0.out) | refine below_set ?_ GE448.out | refine below_set ?_ GE461.out) | exact HB.out)) : p := h
set_option maxHeartbeats 8000000 in
set_option maxRecDepth 100000 in
theorem spec_l20Pays.calls (k : Nat) (g : Nat) (s0_0 : List Int) (s0_1 : Int) (A1_0 : Option Addr) (c1_0 : Nat) (l1_0 : List Int) (A1_1 : Option Addr) (c1_1 : Nat) (l1_1 : List (List Int)) (a2 : Int) (r1 : List (S36)) (r2 : Int) (w0 w : World) (hI : IsS79 w0 w g s0_0 s0_1) (hB : Below w0.heap.size w0 w) (hr1_0 : Kd.C (Kd.int .i64) w A1_0 l1_0.length l1_0) (hc1_0 : l1_0.length ≤ c1_0) (hf1_0 : ∀ ad, A1_0 = some ad → 0 < l1_0.length → ad.block ≠ g) (hr1_1 : ∀ W_, KeepBut w W_ g none → Kd.C (Kd.slice 3 (Kd.int .i64)) W_ A1_1 l1_1.length l1_1) (hc1_1 : l1_1.length ≤ c1_1) (h : spec_l20Pays.f k s0_0 s0_1 l1_0 l1_1 a2 = some (r1, r2)) :
  Calls Try.prog 71 #[.pointer (some ⟨g, 0, none⟩), .agg #[.slice A1_0 l1_0.length c1_0, .slice A1_1 l1_1.length c1_1], .int .i64 a2] w fun e w' => ∃ v0_ : Value, e = .returned (v0_) ∧ Kd.R k36 36 w' w.heap.size (fun _ => True) v0_ r1 ∧ IsS79 w0 w' g s0_0 r2 ∧ Below w0.heap.size w0 w' ∧ KeepBut w w' g none := by
 have hu26 := Try.underlying26
 have hu36 := Try.underlying36
 have HR1_0 := Aside0.mk hr1_0
 have HC1_0 := Aside0.mk hc1_0
 clear hr1_0 hc1_0
 have HR1_1 := Aside0.mk hr1_1
 have HC1_1 := Aside0.mk hc1_1
 clear hr1_1 hc1_1
 have HI0 := Aside0.mk hI
 have HK := Aside0.mk (KeepBut.refl w g none)
 have HL := Aside0.mk hB.size
 clear hI
 have HW0 := Aside0.mk hB.size
 have HB := Aside0.mk hB
 clear hB
 have H : ((spec_OwesOf.f k l1_0 l1_1).bind fun t452 => (spec_l20Pays.l0 k a2 (([] : List (S36))) t452 0 s0_0 s0_1)) = some (r1, r2) := h
 clear h
 obtain ⟨y449, hy449⟩ : ∃ y_ : List (S36), y_ = (([] : List (S36))) := ⟨_, rfl⟩
 replace H : ((spec_OwesOf.f k l1_0 l1_1).bind fun t452 => (spec_l20Pays.l0 k a2 y449 t452 0 s0_0 s0_1)) = some (r1, r2) := by first | (rw [hy449]; with_reducible exact H) | (have H2_ := (Option.bind_some _ _).symm.trans H; rw [hy449]; with_reducible exact H2_) | (have H2_ := (Option.bind_some _ _).symm.trans H; with_reducible exact H2_) | with_reducible exact H | (rw [hy449]; exact H) | exact H
 have Ny449 := Aside0.mk hy449
 clear hy449
 obtain ⟨t452, A4, H⟩ := bind_ H
 have H' := Aside0.mk H
 clear H
 go_enter Try.func71, Try.ntmps71
 go_wp2_with (first | ((with_reducible refine gate_dst (N := 4) rfl ?_); refine bx_ (N := 4) #[.slice A1_0 l1_0.length c1_0, .slice A1_1 l1_1.length c1_1] 26 ?_; intro gb448 hg w5 hbox hb; replace HB := Aside0.mk (below_step (qz46_) hb); have BK448 := Aside0.mk (hbox); have GW448 := Aside0.mk ((g42_ : w.heap.size ≤ gb448)); have GE448 := Aside0.mk ((Nat.le_trans HW0.out (g42_ : w.heap.size ≤ gb448) : w0.heap.size ≤ gb448)); replace HK := Aside0.mk (KeepBut.trans (qz7_) (KeepBut.of_below hb g none) (.inl rfl)); have NB0_448 := Aside0.mk ((by rw [hg]; exact Nat.ne_of_lt (IsS79.lt (show IsS79 w0 _ g s0_0 s0_1 from qz45_)) : g ≠ gb448)); have NB448_0 := Aside0.mk ((by rw [hg]; exact Nat.ne_of_gt (IsS79.lt (show IsS79 w0 _ g s0_0 s0_1 from qz45_)) : gb448 ≠ g)); replace HI0 := Aside0.mk (IsS79.below (qz45_) hb); clear hb hbox hg) | ((with_reducible refine gate_dst (N := 12) rfl ?_); refine Kd.R_lit k36 _ 36 ?hg (N := 12) ?hd (xs := ([] : List (S36))) (inner := []) (ok := fun _ => True) (okp := fun _ => True) ?hr ?hp (fun _ hk => hk) trivial (Below.refl _ _) (Nat.le_refl _) (by simp) ?_; (case hd => rfl); (case hg => rfl); (case hr => first | (go_simp; done) | (go_simp; rfl)); (case hp => exact (Reps.none _ _)); intro v450 w6 ho7 hb hg_ hnew_; clear hg_ hnew_; (first | rw [← Ny449.out] at ho7 | (simp only [Int.reduceToNat] at ho7; rw [← Ny449.out] at ho7)); have HO451 := Aside0.mk (Kd.R_lower ho7 (keep_size (w := w) (g := g) (row := none) (qz7_))); replace BK448 := bb_ BK448 hb; replace HK := Aside0.mk (KeepBut.trans (qz7_) (KeepBut.of_below hb g none) (.inl rfl)); replace HB := Aside0.mk (below_step (qz46_) hb); replace HI0 := Aside0.mk (IsS79.below (qz45_) hb); clear hb ho7; have hnb8 := NB448_0.out; have hnc8 := NB0_448.out; obtain ⟨hcz9_0, hcz9_1, hfz9_0, hfz9_1⟩ := blk2_ BK448) | ((with_reducible refine gate_callee (f := 62) rfl ?_); refine goesL_ (some 14) rfl rfl Try.func62 k_ rfl #[.agg #[.slice A1_0 l1_0.length c1_0, .slice A1_1 l1_1.length c1_1]] rfl (g2_) ?_; (with_reducible refine (spec_OwesOf.calls k _ _ l1_0 _ _ l1_1 t452 _ ?side1 ?side2 ?side3 ?side4 A4.out).mono ?_); (case side1 => exact Kd.C_keep 0 HR1_0.out (qz7_) hf1_0); (case side2 => exact HC1_0.out); (case side3 => exact Kd.C_foot_now HR1_1.out (qz7_)); (case side4 => exact HC1_1.out); rintro e w10 ⟨v453, rfl, ho0, hb⟩; refine ⟨_, rfl, ?_⟩; replace HO451 := Aside0.mk (Kd.R_below (uf1_ HO451) hb); have HO454 := Aside0.mk (Kd.R_lower ho0 (keep_size (w := w) (g := g) (row := none) (qz7_))); replace BK448 := bb_ BK448 hb; replace HK := Aside0.mk (KeepBut.trans (qz7_) (KeepBut.of_below hb g none) (.inl rfl)); replace HB := Aside0.mk (below_step (qz46_) hb); replace HI0 := Aside0.mk (IsS79.below (qz45_) hb); (try clear hb); (try clear hk hi); (try clear ho0)))
 go_loopg [7, 9] k (fun kq v7 v9 w' => ∃ (x7_1 : List (S36)) (x9_1 : Int) (x1001_1 : Int), v9 = .int .i64 x9_1 ∧ Aside0 (spec_l20Pays.l0 kq a2 x7_1 t452 x9_1 s0_0 x1001_1 = some (r1, r2)) ∧ Aside0 (kq ≤ k) ∧ Aside0 (Kd.R k36 36 w' w.heap.size (fun _ => True) v7 x7_1) ∧ Aside0 (Kd.R (Kd.int .i64) 3 w' w.heap.size (fun _ => True) v453 t452) ∧ Aside0 (w'.heap[gb448]? = some (.cells #[(.slice A1_0 l1_0.length c1_0), (.slice A1_1 l1_1.length c1_1)] 26 (0, 0))) ∧ Aside0 (IsS79 w0 w' g s0_0 x1001_1) ∧ Aside0 (KeepBut w w' g none) ∧ Aside0 (Below w0.heap.size w0 w'))
 case atStart => exact ⟨(y449), (0), (s0_1), (g3_), H', ⟨Nat.le_refl _⟩, ⟨uf1_ HO451⟩, ⟨uf1_ HO454⟩, ⟨uf0_ BK448⟩, ⟨qz45_⟩, ⟨qz7_⟩, ⟨qz46_⟩⟩
 case round =>
  clear H'
  try clear c1
  try clear p2
  try clear c6
  try clear c7
  try clear c8
  try clear hcz9_0
  try clear hcz9_1
  try clear hfz9_0
  try clear hfz9_1
  obtain ⟨x7_1, x9_1, x1001_1, rfl, HA, HK1, HO_7, HO_8, BK448, HI0, HK, HB⟩ := hrel
  cases gk with
  | zero => exact absurd HA.out (by simp [spec_l20Pays.l0])
  | succ k1 =>
   have H := HA.out
   clear HA
   simp only [spec_l20Pays.l0] at H
   by_cases c11 : x9_1 < (t452.length : Int)
   ·rw [if_pos c11] at H
    have c11b0 := decide_eq_true c11
    clear c11
    obtain ⟨c12, H⟩ := pos_ H
    have c12b0 := decide_eq_true c12
    clear c12
    replace H := Option.bind_eq_some_iff.mp H
    obtain ⟨⟨t456, t457⟩, A130, H⟩ := H
    replace H : ((spec_l1Low.f k1 t456 6).bind fun bt458 => ((spec_l20Rd_pick.f k1 s0_0 t457 4).bind fun bt462 => (if bt462.1 = 0 then (if x7_1.length < 8796093022208 then (spec_l20Pays.l0 k1 a2 (x7_1 ++ [(⟨rd t452 x9_1, 1⟩ : S36)]) t452 (wrap64 (x9_1 + 1)) s0_0 bt462.2) else (none)) else (if bt462.1 = 1 then ((spec_l20Rd_pick.f k1 s0_0 bt462.2 (wrap64 ((rd t452 x9_1) + 1))).bind fun bt469 => (if x7_1.length < 8796093022208 then (spec_l20Pays.l0 k1 a2 (x7_1 ++ [(⟨bt469.1, 1⟩ : S36)]) t452 (wrap64 (x9_1 + 1)) s0_0 bt469.2) else (none))) else (if x7_1.length < 8796093022208 then (spec_l20Pays.l0 k1 a2 (x7_1 ++ [(⟨bt458.1, bt458.2.1⟩ : S36)]) t452 (wrap64 (x9_1 + 1)) s0_0 bt462.2) else (none)))))) = some (r1, r2) := H
    have A13 := Aside0.mk A130
    clear A130
    replace H := Option.bind_eq_some_iff.mp H
    obtain ⟨⟨t458, t459, t460⟩, A140, H⟩ := H
    replace H : ((spec_l20Rd_pick.f k1 s0_0 t457 4).bind fun bt462 => (if bt462.1 = 0 then (if x7_1.length < 8796093022208 then (spec_l20Pays.l0 k1 a2 (x7_1 ++ [(⟨rd t452 x9_1, 1⟩ : S36)]) t452 (wrap64 (x9_1 + 1)) s0_0 bt462.2) else (none)) else (if bt462.1 = 1 then ((spec_l20Rd_pick.f k1 s0_0 bt462.2 (wrap64 ((rd t452 x9_1) + 1))).bind fun bt469 => (if x7_1.length < 8796093022208 then (spec_l20Pays.l0 k1 a2 (x7_1 ++ [(⟨bt469.1, 1⟩ : S36)]) t452 (wrap64 (x9_1 + 1)) s0_0 bt469.2) else (none))) else (if x7_1.length < 8796093022208 then (spec_l20Pays.l0 k1 a2 (x7_1 ++ [(⟨t458, t459⟩ : S36)]) t452 (wrap64 (x9_1 + 1)) s0_0 bt462.2) else (none))))) = some (r1, r2) := H
    have A14 := Aside0.mk A140
    clear A140
    replace H := Option.bind_eq_some_iff.mp H
    obtain ⟨⟨t462, t463⟩, A150, H⟩ := H
    replace H : (if t462 = 0 then (if x7_1.length < 8796093022208 then (spec_l20Pays.l0 k1 a2 (x7_1 ++ [(⟨rd t452 x9_1, 1⟩ : S36)]) t452 (wrap64 (x9_1 + 1)) s0_0 t463) else (none)) else (if t462 = 1 then ((spec_l20Rd_pick.f k1 s0_0 t463 (wrap64 ((rd t452 x9_1) + 1))).bind fun bt469 => (if x7_1.length < 8796093022208 then (spec_l20Pays.l0 k1 a2 (x7_1 ++ [(⟨bt469.1, 1⟩ : S36)]) t452 (wrap64 (x9_1 + 1)) s0_0 bt469.2) else (none))) else (if x7_1.length < 8796093022208 then (spec_l20Pays.l0 k1 a2 (x7_1 ++ [(⟨t458, t459⟩ : S36)]) t452 (wrap64 (x9_1 + 1)) s0_0 t463) else (none)))) = some (r1, r2) := H
    have A15 := Aside0.mk A150
    clear A150
    by_cases c16 : t462 = 0
    ·rw [if_pos c16] at H
     have c16b0 : (t462 == 0) = true := beq_iff_eq.mpr c16
     have c16b1 : (t462 != 0) = false := bne_eq_false_iff_eq.mpr c16
     clear c16
     obtain ⟨c17, H⟩ := pos_ H
     have LMc17 := Aside0.mk c17
     clear c17
     obtain ⟨y465, hy465⟩ : ∃ y_ : List (S36), y_ = (x7_1 ++ [(⟨rd t452 x9_1, 1⟩ : S36)]) := ⟨_, rfl⟩
     replace H : (spec_l20Pays.l0 k1 a2 y465 t452 (wrap64 (x9_1 + 1)) s0_0 t463) = some (r1, r2) := by first | (rw [hy465]; with_reducible exact H) | (have H2_ := (Option.bind_some _ _).symm.trans H; rw [hy465]; with_reducible exact H2_) | (have H2_ := (Option.bind_some _ _).symm.trans H; with_reducible exact H2_) | with_reducible exact H | (rw [hy465]; exact H) | exact H
     have Ny465 := Aside0.mk hy465
     clear hy465
     have H' := Aside0.mk H
     clear H
     obtain ⟨Ao18, co18, eo18⟩ := Kd.R_slice HO_8.out
     subst eo18
     have p455 : 0 ≤ (x9_1 : Int) := of_decide_eq_true (g1_)
     have q455 : x9_1 < (t452.length : Int) := of_decide_eq_true (g1_)
     obtain ⟨ad455, e455, hx455_0⟩ := Kd.at_int (Kd.R_reads' HO_8.out).2.2 x9_1 p455 q455
     cases e455
     replace p455 := eq_true p455
     replace q455 := eq_true q455
     go_wp2_with (first | ((with_reducible refine gate_callee (f := 87) rfl ?_); refine goesL_ (some 29) rfl rfl Try.func87 k_ rfl #[.pointer (some ⟨g, 0, none⟩), .int .i64 (wrap64 ((wrap64 ((rd t452 x9_1) * 6)) + 1))] rfl (g2_) ?_; (with_reducible refine (spec_l20Rd_pick.calls k1 g s0_0 x1001_1 (wrap64 ((wrap64 ((rd t452 x9_1) * 6)) + 1)) t456 t457 w0 _ ?side1 ?side2 A13.out).mono ?_); (case side1 => exact qz45_); (case side2 => exact qz46_); rintro e w19 ⟨rfl, hi, hb, hk⟩; refine ⟨_, rfl, ?_⟩; replace HO_7 := Aside0.mk (Kd.R_mono (Kd.R_keep (IsS79.apart (show IsS79 w0 _ g s0_0 x1001_1 from qz45_) (uf1_ HO_7) (by decide)) hk (fun _ h => h.2)) (fun _ h => h.1)); replace HO_8 := Aside0.mk (Kd.R_mono (Kd.R_keep (IsS79.apart (show IsS79 w0 _ g s0_0 x1001_1 from qz45_) (uf1_ HO_8) (by decide)) hk (fun _ h => h.2)) (fun _ h => h.1)); replace BK448 := Aside0.mk (KeepBut.blk hk (g' := gb448) (o := .cells #[.slice A1_0 l1_0.length c1_0, .slice A1_1 l1_1.length c1_1] 26 (0, 0)) (uf0_ BK448) NB448_0.out (by simp)); replace HK := Aside0.mk (KeepBut.trans (qz7_) hk (.inl rfl)); replace HB := Aside0.mk (hb); replace HI0 := Aside0.mk (hi); (try clear hb); (try clear hk hi)) | ((with_reducible refine gate_callee (f := 95) rfl ?_); refine goesL_ (some 30) rfl rfl Try.func95 k_ rfl #[.int .i64 t456, .int .i64 6] rfl (g2_) ?_; (with_reducible refine (spec_l1Low.calls k1 t456 6 t458 t459 t460 _ A14.out).mono ?_); rintro e w20 ⟨rfl, hb⟩; refine ⟨_, rfl, ?_⟩; replace HO_7 := Aside0.mk (Kd.R_below (uf1_ HO_7) hb); replace HO_8 := Aside0.mk (Kd.R_below (uf1_ HO_8) hb); replace BK448 := bb_ BK448 hb; replace HK := Aside0.mk (KeepBut.trans (qz7_) (KeepBut.of_below hb g none) (.inl rfl)); replace HB := Aside0.mk (below_step (qz46_) hb); replace HI0 := Aside0.mk (IsS79.below (qz45_) hb); (try clear hb); (try clear hk hi)) | ((with_reducible refine gate_dst (N := 10) rfl ?_); refine bx_ (N := 10) #[.int .i64 0, .int .i64 0] 36 ?_; intro gb461 hg w21 hbox hb; replace HO_7 := Aside0.mk (Kd.R_below (Kd.R_elderB (uf1_ HO_7) gb461 (Nat.le_of_eq hg.symm)) hb); replace HO_8 := Aside0.mk (Kd.R_below (uf1_ HO_8) hb); replace HB := Aside0.mk (below_step (qz46_) hb); have BK461 := Aside0.mk (hbox); have GW461 := Aside0.mk ((g42_ : w.heap.size ≤ gb461)); have GE461 := Aside0.mk ((Nat.le_trans HW0.out (g42_ : w.heap.size ≤ gb461) : w0.heap.size ≤ gb461)); replace HK := Aside0.mk (KeepBut.trans (qz7_) (KeepBut.of_below hb g none) (.inl rfl)); have NB448_461 := Aside0.mk ((g149_ : gb448 ≠ gb461)); have NB461_448 := Aside0.mk ((g150_ : gb461 ≠ gb448)); replace BK448 := bb_ BK448 hb; have NB0_461 := Aside0.mk ((by rw [hg]; exact Nat.ne_of_lt (IsS79.lt (show IsS79 w0 _ g s0_0 t457 from qz45_)) : g ≠ gb461)); have NB461_0 := Aside0.mk ((by rw [hg]; exact Nat.ne_of_gt (IsS79.lt (show IsS79 w0 _ g s0_0 t457 from qz45_)) : gb461 ≠ g)); replace HI0 := Aside0.mk (IsS79.below (qz45_) hb); clear hb hbox hg; have hnb22 := NB461_448.out; have hnc22 := NB448_461.out; have hnb23 := NB461_0.out; have hnc23 := NB0_461.out; obtain ⟨hcz24_0, hcz24_1, hfz24_0, hfz24_1⟩ := blk2_ BK461) | ((with_reducible refine gate_callee (f := 87) rfl ?_); refine goesL_ (some 34) rfl rfl Try.func87 k_ rfl #[.pointer (some ⟨g, 0, none⟩), .int .i64 4] rfl (g2_) ?_; (with_reducible refine (spec_l20Rd_pick.calls k1 g s0_0 t457 4 t462 t463 w0 _ ?side1 ?side2 A15.out).mono ?_); (case side1 => exact qz45_); (case side2 => exact qz46_); rintro e w25 ⟨rfl, hi, hb, hk⟩; refine ⟨_, rfl, ?_⟩; replace HO_7 := Aside0.mk (Kd.R_mono (Kd.R_keep (IsS79.apart (show IsS79 w0 _ g s0_0 t457 from qz45_) (g151_) (by decide)) hk (fun _ h => h.2)) (fun _ h => h.1)); replace HO_8 := Aside0.mk (Kd.R_mono (Kd.R_keep (IsS79.apart (show IsS79 w0 _ g s0_0 t457 from qz45_) (g152_) (by decide)) hk (fun _ h => h.2)) (fun _ h => h.1)); replace BK448 := Aside0.mk (KeepBut.blk hk (g' := gb448) (o := .cells #[.slice A1_0 l1_0.length c1_0, .slice A1_1 l1_1.length c1_1] 26 (0, 0)) (g83_) NB448_0.out (by simp)); replace BK461 := Aside0.mk (KeepBut.blk hk (g' := gb461) (o := .cells #[.int .i64 t458, .int .i64 t459] 36 (0, 0)) (g153_) NB461_0.out (by simp)); replace HK := Aside0.mk (KeepBut.trans (qz7_) hk (.inl rfl)); replace HB := Aside0.mk (hb); replace HI0 := Aside0.mk (hi); (try clear hb); (try clear hk hi); have p464 : 0 ≤ (x9_1 : Int) := of_decide_eq_true (g1_); have q464 : x9_1 < (t452.length : Int) := of_decide_eq_true (g1_); obtain ⟨ad464, e464, hx464_0⟩ := Kd.at_int (Kd.R_reads' HO_8.out).2.2 x9_1 p464 q464; obtain rfl : ad455 = ad464 := (by injection e464); replace p464 := eq_true p464; replace q464 := eq_true q464; obtain ⟨hcz26_0, hcz26_1, hfz26_0, hfz26_1⟩ := blk2_ BK461) | ((with_reducible refine gate_builtin (b := .append) (xs := #[.tmp 52, .tmp 54]) rfl ?_); at_builtin; refine Kd.R_append k36 w.heap.size rfl (.tmp 52) (.tmp 54) 28 36 (.agg #[(.int .i64 0), (.int .i64 0)]) 16 rfl Try.underlying28 info36 rfl (by decide) (by omega) u7 x7_1 (⟨rd t452 x9_1, 1⟩ : S36) [.int .i64 (rd t452 x9_1), .int .i64 1] (fun k_ => k_ ≠ gb461) (fun _ => False) rfl (g67_) ?aP (fun _ hk => hk.elim) ?aF ?aO (Below.refl _ _) ?aS ?aL ?_; (case aP => exact k36_mkM _ _ _ (⟨rd t452 x9_1, 1⟩ : S36)); (case aF => exact (fun k_ hk => Kd.freshB (g := gb461) (o := .cells #[.int .i64 (rd t452 x9_1), .int .i64 1] 36 (0, 0)) (by (with_reducible repeat (first | refine blk_drewN ?_ _ | refine blk_drew ?_ | refine blk_alloc ?_ _)); refine blk_put (cs := #[.int .i64 (rd t452 x9_1), .int .i64 t459]) ?_ 1 _ rfl; (with_reducible repeat (first | refine blk_drewN ?_ _ | refine blk_drew ?_ | refine blk_alloc ?_ _)); refine blk_put (cs := #[.int .i64 t458, .int .i64 t459]) ?_ 0 _ rfl; (with_reducible repeat (first | refine blk_drewN ?_ _ | refine blk_drew ?_ | refine blk_alloc ?_ _)); exact BK461.out) k_ hk)); (case aO => exact (by (with_reducible repeat (first | apply Kd.R_alloc | apply Kd.R_drewN | apply Kd.R_drew)); exact Kd.R_mono (Kd.R_far (p := ⟨gb461, 1, none⟩) (Kd.R_far (p := ⟨gb461, 0, none⟩) (Kd.R_mono HO_7.out (fun k_ hk => (⟨hk, hk.2⟩ : _ ∧ k_ ≠ gb461))) (fun _ hk => hk.2) (.int .i64 (rd t452 x9_1))) (fun _ hk => hk.2) (.int .i64 1)) (fun _ hk => hk.1.2))); (case aS => exact (keep_size (w := w) (g := g) (row := none) (qz7_))); (case aL => have := LMc17.out; omega); intro v466 w27 ho hb hg hat; rw [← Ny465.out] at ho; replace HO_8 := Aside0.mk (Kd.R_over' (by (with_reducible repeat (first | apply Kd.R_alloc | apply Kd.R_drewN | apply Kd.R_drew)); exact (Kd.R_mono (Kd.R_far (p := ⟨gb461, 1, none⟩) (Kd.R_far (p := ⟨gb461, 0, none⟩) (Kd.R_types HO_8.out BK461.out (by decide)) (fun _ hk => hk.2) (.int .i64 (rd t452 x9_1))) (fun _ hk => hk.2) (.int .i64 1)) (fun _ h_ => h_.1))) (Kd.R_typed (by (with_reducible repeat (first | apply Kd.R_alloc | apply Kd.R_drewN | apply Kd.R_drew)); exact (Kd.R_mono (Kd.R_far (p := ⟨gb461, 1, none⟩) (Kd.R_far (p := ⟨gb461, 0, none⟩) (Kd.R_mono HO_7.out (fun k_ hk => (⟨hk, hk.2⟩ : _ ∧ k_ ≠ gb461))) (fun _ hk => hk.2) (.int .i64 (rd t452 x9_1))) (fun _ hk => hk.2) (.int .i64 1)) (fun _ h_ => h_.1)))) (by decide) hg); replace BK448 := Aside0.mk (blk_grown (g := gb448) (o := .cells #[.slice A1_0 l1_0.length c1_0, .slice A1_1 l1_1.length c1_1] 26 (0, 0)) (g83_) hg (Kd.R_ne HO_7.out BK448.out (by decide))); replace BK461 := Aside0.mk (blk_grown (g := gb461) (o := .cells #[.int .i64 (rd t452 x9_1), .int .i64 1] 36 (0, 0)) (by (with_reducible repeat (first | refine blk_drewN ?_ _ | refine blk_drew ?_ | refine blk_alloc ?_ _)); refine blk_put (cs := #[.int .i64 (rd t452 x9_1), .int .i64 t459]) ?_ 1 _ rfl; (with_reducible repeat (first | refine blk_drewN ?_ _ | refine blk_drew ?_ | refine blk_alloc ?_ _)); refine blk_put (cs := #[.int .i64 t458, .int .i64 t459]) ?_ 0 _ rfl; (with_reducible repeat (first | refine blk_drewN ?_ _ | refine blk_drew ?_ | refine blk_alloc ?_ _)); exact BK461.out) hg (Kd.R_away HO_7.out (fun _ hk => hk.2))); replace HB := Aside0.mk (below_weaken (qz46_) HL.out hb); replace HI0 := Aside0.mk (IsS79.grown (w0 := w0) (f0 := s0_0) (f1 := t463) (qz45_) hg (IsS79.own_ne HI0.out HO_7.out (by decide))); replace HK := Aside0.mk (KeepBut.trans (qz7_) (KeepBut.of_grown hg g) (Kd.R_base2 HO_7.out)); have HO467 := Aside0.mk (ho); clear HO_7; clear ho hb hg hat))
     go_roundg k1
     case measure => have := HK1.out; omega
     case rel => exact ⟨(y465), (wrap64 (x9_1 + 1)), (t463), (g3_), H', ⟨g9_⟩, ⟨by (with_reducible repeat (first | apply Kd.R_alloc | apply Kd.R_drewN | apply Kd.R_drew)); exact Kd.R_mono HO467.out (fun _ hk => trivial)⟩, ⟨uf1_ HO_8⟩, ⟨uf0_ BK448⟩, ⟨qz45_⟩, ⟨qz7_⟩, ⟨qz46_⟩⟩
    ·rw [if_neg c16] at H
     have c16b0 : (t462 == 0) = false := beq_eq_false_iff_ne.mpr c16
     have c16b1 : (t462 != 0) = true := bne_iff_ne.mpr c16
     by_cases c28 : t462 = 1
     ·rw [if_pos c28] at H
      have c28b0 : (t462 == 1) = true := beq_iff_eq.mpr c28
      have c28b1 : (t462 != 1) = false := bne_eq_false_iff_eq.mpr c28
      clear c28
      replace H := Option.bind_eq_some_iff.mp H
      obtain ⟨⟨t469, t470⟩, A290, H⟩ := H
      replace H : (if x7_1.length < 8796093022208 then (spec_l20Pays.l0 k1 a2 (x7_1 ++ [(⟨t469, 1⟩ : S36)]) t452 (wrap64 (x9_1 + 1)) s0_0 t470) else (none)) = some (r1, r2) := H
      have A29 := Aside0.mk A290
      clear A290
      obtain ⟨c30, H⟩ := pos_ H
      have LMc30 := Aside0.mk c30
      clear c30
      obtain ⟨y471, hy471⟩ : ∃ y_ : List (S36), y_ = (x7_1 ++ [(⟨t469, 1⟩ : S36)]) := ⟨_, rfl⟩
      replace H : (spec_l20Pays.l0 k1 a2 y471 t452 (wrap64 (x9_1 + 1)) s0_0 t470) = some (r1, r2) := by first | (rw [hy471]; with_reducible exact H) | (have H2_ := (Option.bind_some _ _).symm.trans H; rw [hy471]; with_reducible exact H2_) | (have H2_ := (Option.bind_some _ _).symm.trans H; with_reducible exact H2_) | with_reducible exact H | (rw [hy471]; exact H) | exact H
      have Ny471 := Aside0.mk hy471
      clear hy471
      have H' := Aside0.mk H
      clear H
      obtain ⟨Ao31, co31, eo31⟩ := Kd.R_slice HO_8.out
      subst eo31
      have p455 : 0 ≤ (x9_1 : Int) := of_decide_eq_true (g1_)
      have q455 : x9_1 < (t452.length : Int) := of_decide_eq_true (g1_)
      obtain ⟨ad455, e455, hx455_0⟩ := Kd.at_int (Kd.R_reads' HO_8.out).2.2 x9_1 p455 q455
      cases e455
      replace p455 := eq_true p455
      replace q455 := eq_true q455
      go_wp2_with (first | ((with_reducible refine gate_callee (f := 87) rfl ?_); refine goesL_ (some 29) rfl rfl Try.func87 k_ rfl #[.pointer (some ⟨g, 0, none⟩), .int .i64 (wrap64 ((wrap64 ((rd t452 x9_1) * 6)) + 1))] rfl (g2_) ?_; (with_reducible refine (spec_l20Rd_pick.calls k1 g s0_0 x1001_1 (wrap64 ((wrap64 ((rd t452 x9_1) * 6)) + 1)) t456 t457 w0 _ ?side1 ?side2 A13.out).mono ?_); (case side1 => exact qz45_); (case side2 => exact qz46_); rintro e w32 ⟨rfl, hi, hb, hk⟩; refine ⟨_, rfl, ?_⟩; replace HO_7 := Aside0.mk (Kd.R_mono (Kd.R_keep (IsS79.apart (show IsS79 w0 _ g s0_0 x1001_1 from qz45_) (uf1_ HO_7) (by decide)) hk (fun _ h => h.2)) (fun _ h => h.1)); replace HO_8 := Aside0.mk (Kd.R_mono (Kd.R_keep (IsS79.apart (show IsS79 w0 _ g s0_0 x1001_1 from qz45_) (uf1_ HO_8) (by decide)) hk (fun _ h => h.2)) (fun _ h => h.1)); replace BK448 := Aside0.mk (KeepBut.blk hk (g' := gb448) (o := .cells #[.slice A1_0 l1_0.length c1_0, .slice A1_1 l1_1.length c1_1] 26 (0, 0)) (uf0_ BK448) NB448_0.out (by simp)); replace HK := Aside0.mk (KeepBut.trans (qz7_) hk (.inl rfl)); replace HB := Aside0.mk (hb); replace HI0 := Aside0.mk (hi); (try clear hb); (try clear hk hi)) | ((with_reducible refine gate_callee (f := 95) rfl ?_); refine goesL_ (some 30) rfl rfl Try.func95 k_ rfl #[.int .i64 t456, .int .i64 6] rfl (g2_) ?_; (with_reducible refine (spec_l1Low.calls k1 t456 6 t458 t459 t460 _ A14.out).mono ?_); rintro e w33 ⟨rfl, hb⟩; refine ⟨_, rfl, ?_⟩; replace HO_7 := Aside0.mk (Kd.R_below (uf1_ HO_7) hb); replace HO_8 := Aside0.mk (Kd.R_below (uf1_ HO_8) hb); replace BK448 := bb_ BK448 hb; replace HK := Aside0.mk (KeepBut.trans (qz7_) (KeepBut.of_below hb g none) (.inl rfl)); replace HB := Aside0.mk (below_step (qz46_) hb); replace HI0 := Aside0.mk (IsS79.below (qz45_) hb); (try clear hb); (try clear hk hi)) | ((with_reducible refine gate_dst (N := 10) rfl ?_); refine bx_ (N := 10) #[.int .i64 0, .int .i64 0] 36 ?_; intro gb461 hg w34 hbox hb; replace HO_7 := Aside0.mk (Kd.R_below (Kd.R_elderB (uf1_ HO_7) gb461 (Nat.le_of_eq hg.symm)) hb); replace HO_8 := Aside0.mk (Kd.R_below (uf1_ HO_8) hb); replace HB := Aside0.mk (below_step (qz46_) hb); have BK461 := Aside0.mk (hbox); have GW461 := Aside0.mk ((g42_ : w.heap.size ≤ gb461)); have GE461 := Aside0.mk ((Nat.le_trans HW0.out (g42_ : w.heap.size ≤ gb461) : w0.heap.size ≤ gb461)); replace HK := Aside0.mk (KeepBut.trans (qz7_) (KeepBut.of_below hb g none) (.inl rfl)); have NB448_461 := Aside0.mk ((g149_ : gb448 ≠ gb461)); have NB461_448 := Aside0.mk ((g150_ : gb461 ≠ gb448)); replace BK448 := bb_ BK448 hb; have NB0_461 := Aside0.mk ((by rw [hg]; exact Nat.ne_of_lt (IsS79.lt (show IsS79 w0 _ g s0_0 t457 from qz45_)) : g ≠ gb461)); have NB461_0 := Aside0.mk ((by rw [hg]; exact Nat.ne_of_gt (IsS79.lt (show IsS79 w0 _ g s0_0 t457 from qz45_)) : gb461 ≠ g)); replace HI0 := Aside0.mk (IsS79.below (qz45_) hb); clear hb hbox hg; have hnb35 := NB461_448.out; have hnc35 := NB448_461.out; have hnb36 := NB461_0.out; have hnc36 := NB0_461.out; obtain ⟨hcz37_0, hcz37_1, hfz37_0, hfz37_1⟩ := blk2_ BK461) | ((with_reducible refine gate_callee (f := 87) rfl ?_); refine goesL_ (some 34) rfl rfl Try.func87 k_ rfl #[.pointer (some ⟨g, 0, none⟩), .int .i64 4] rfl (g2_) ?_; (with_reducible refine (spec_l20Rd_pick.calls k1 g s0_0 t457 4 t462 t463 w0 _ ?side1 ?side2 A15.out).mono ?_); (case side1 => exact qz45_); (case side2 => exact qz46_); rintro e w38 ⟨rfl, hi, hb, hk⟩; refine ⟨_, rfl, ?_⟩; replace HO_7 := Aside0.mk (Kd.R_mono (Kd.R_keep (IsS79.apart (show IsS79 w0 _ g s0_0 t457 from qz45_) (g151_) (by decide)) hk (fun _ h => h.2)) (fun _ h => h.1)); replace HO_8 := Aside0.mk (Kd.R_mono (Kd.R_keep (IsS79.apart (show IsS79 w0 _ g s0_0 t457 from qz45_) (g152_) (by decide)) hk (fun _ h => h.2)) (fun _ h => h.1)); replace BK448 := Aside0.mk (KeepBut.blk hk (g' := gb448) (o := .cells #[.slice A1_0 l1_0.length c1_0, .slice A1_1 l1_1.length c1_1] 26 (0, 0)) (g83_) NB448_0.out (by simp)); replace BK461 := Aside0.mk (KeepBut.blk hk (g' := gb461) (o := .cells #[.int .i64 t458, .int .i64 t459] 36 (0, 0)) (g153_) NB461_0.out (by simp)); replace HK := Aside0.mk (KeepBut.trans (qz7_) hk (.inl rfl)); replace HB := Aside0.mk (hb); replace HI0 := Aside0.mk (hi); (try clear hb); (try clear hk hi); have p468 : 0 ≤ (x9_1 : Int) := of_decide_eq_true (g1_); have q468 : x9_1 < (t452.length : Int) := of_decide_eq_true (g1_); obtain ⟨ad468, e468, hx468_0⟩ := Kd.at_int (Kd.R_reads' HO_8.out).2.2 x9_1 p468 q468; obtain rfl : ad455 = ad468 := (by injection e468); replace p468 := eq_true p468; replace q468 := eq_true q468) | ((with_reducible refine gate_callee (f := 87) rfl ?_); refine goesL_ (some 50) rfl rfl Try.func87 k_ rfl #[.pointer (some ⟨g, 0, none⟩), .int .i64 (wrap64 ((rd t452 x9_1) + 1))] rfl (g2_) ?_; (with_reducible refine (spec_l20Rd_pick.calls k1 g s0_0 t463 (wrap64 ((rd t452 x9_1) + 1)) t469 t470 w0 _ ?side1 ?side2 A29.out).mono ?_); (case side1 => exact qz45_); (case side2 => exact qz46_); rintro e w39 ⟨rfl, hi, hb, hk⟩; refine ⟨_, rfl, ?_⟩; replace HO_7 := Aside0.mk (Kd.R_mono (Kd.R_keep (IsS79.apart (show IsS79 w0 _ g s0_0 t463 from qz45_) (uf1_ HO_7) (by decide)) hk (fun _ h => h.2)) (fun _ h => h.1)); replace HO_8 := Aside0.mk (Kd.R_mono (Kd.R_keep (IsS79.apart (show IsS79 w0 _ g s0_0 t463 from qz45_) (uf1_ HO_8) (by decide)) hk (fun _ h => h.2)) (fun _ h => h.1)); replace BK448 := Aside0.mk (KeepBut.blk hk (g' := gb448) (o := .cells #[.slice A1_0 l1_0.length c1_0, .slice A1_1 l1_1.length c1_1] 26 (0, 0)) (uf0_ BK448) NB448_0.out (by simp)); replace BK461 := Aside0.mk (KeepBut.blk hk (g' := gb461) (o := .cells #[.int .i64 t458, .int .i64 t459] 36 (0, 0)) (uf0_ BK461) NB461_0.out (by simp)); replace HK := Aside0.mk (KeepBut.trans (qz7_) hk (.inl rfl)); replace HB := Aside0.mk (hb); replace HI0 := Aside0.mk (hi); (try clear hb); (try clear hk hi); obtain ⟨hcz40_0, hcz40_1, hfz40_0, hfz40_1⟩ := blk2_ BK461) | ((with_reducible refine gate_builtin (b := .append) (xs := #[.tmp 52, .tmp 54]) rfl ?_); at_builtin; refine Kd.R_append k36 w.heap.size rfl (.tmp 52) (.tmp 54) 28 36 (.agg #[(.int .i64 0), (.int .i64 0)]) 16 rfl Try.underlying28 info36 rfl (by decide) (by omega) u7 x7_1 (⟨t469, 1⟩ : S36) [.int .i64 t469, .int .i64 1] (fun k_ => k_ ≠ gb461) (fun _ => False) rfl (g67_) ?aP (fun _ hk => hk.elim) ?aF ?aO (Below.refl _ _) ?aS ?aL ?_; (case aP => exact k36_mkM _ _ _ (⟨t469, 1⟩ : S36)); (case aF => exact (fun k_ hk => Kd.freshB (g := gb461) (o := .cells #[.int .i64 t469, .int .i64 1] 36 (0, 0)) (by (with_reducible repeat (first | refine blk_drewN ?_ _ | refine blk_drew ?_ | refine blk_alloc ?_ _)); refine blk_put (cs := #[.int .i64 t469, .int .i64 t459]) ?_ 1 _ rfl; (with_reducible repeat (first | refine blk_drewN ?_ _ | refine blk_drew ?_ | refine blk_alloc ?_ _)); refine blk_put (cs := #[.int .i64 t458, .int .i64 t459]) ?_ 0 _ rfl; (with_reducible repeat (first | refine blk_drewN ?_ _ | refine blk_drew ?_ | refine blk_alloc ?_ _)); exact BK461.out) k_ hk)); (case aO => exact (by (with_reducible repeat (first | apply Kd.R_alloc | apply Kd.R_drewN | apply Kd.R_drew)); exact Kd.R_mono (Kd.R_far (p := ⟨gb461, 1, none⟩) (Kd.R_far (p := ⟨gb461, 0, none⟩) (Kd.R_mono HO_7.out (fun k_ hk => (⟨hk, hk.2⟩ : _ ∧ k_ ≠ gb461))) (fun _ hk => hk.2) (.int .i64 t469)) (fun _ hk => hk.2) (.int .i64 1)) (fun _ hk => hk.1.2))); (case aS => exact (keep_size (w := w) (g := g) (row := none) (qz7_))); (case aL => have := LMc30.out; omega); intro v472 w41 ho hb hg hat; rw [← Ny471.out] at ho; replace HO_8 := Aside0.mk (Kd.R_over' (by (with_reducible repeat (first | apply Kd.R_alloc | apply Kd.R_drewN | apply Kd.R_drew)); exact (Kd.R_mono (Kd.R_far (p := ⟨gb461, 1, none⟩) (Kd.R_far (p := ⟨gb461, 0, none⟩) (Kd.R_types HO_8.out BK461.out (by decide)) (fun _ hk => hk.2) (.int .i64 t469)) (fun _ hk => hk.2) (.int .i64 1)) (fun _ h_ => h_.1))) (Kd.R_typed (by (with_reducible repeat (first | apply Kd.R_alloc | apply Kd.R_drewN | apply Kd.R_drew)); exact (Kd.R_mono (Kd.R_far (p := ⟨gb461, 1, none⟩) (Kd.R_far (p := ⟨gb461, 0, none⟩) (Kd.R_mono HO_7.out (fun k_ hk => (⟨hk, hk.2⟩ : _ ∧ k_ ≠ gb461))) (fun _ hk => hk.2) (.int .i64 t469)) (fun _ hk => hk.2) (.int .i64 1)) (fun _ h_ => h_.1)))) (by decide) hg); replace BK448 := Aside0.mk (blk_grown (g := gb448) (o := .cells #[.slice A1_0 l1_0.length c1_0, .slice A1_1 l1_1.length c1_1] 26 (0, 0)) (g83_) hg (Kd.R_ne HO_7.out BK448.out (by decide))); replace BK461 := Aside0.mk (blk_grown (g := gb461) (o := .cells #[.int .i64 t469, .int .i64 1] 36 (0, 0)) (by (with_reducible repeat (first | refine blk_drewN ?_ _ | refine blk_drew ?_ | refine blk_alloc ?_ _)); refine blk_put (cs := #[.int .i64 t469, .int .i64 t459]) ?_ 1 _ rfl; (with_reducible repeat (first | refine blk_drewN ?_ _ | refine blk_drew ?_ | refine blk_alloc ?_ _)); refine blk_put (cs := #[.int .i64 t458, .int .i64 t459]) ?_ 0 _ rfl; (with_reducible repeat (first | refine blk_drewN ?_ _ | refine blk_drew ?_ | refine blk_alloc ?_ _)); exact BK461.out) hg (Kd.R_away HO_7.out (fun _ hk => hk.2))); replace HB := Aside0.mk (below_weaken (qz46_) HL.out hb); replace HI0 := Aside0.mk (IsS79.grown (w0 := w0) (f0 := s0_0) (f1 := t470) (qz45_) hg (IsS79.own_ne HI0.out HO_7.out (by decide))); replace HK := Aside0.mk (KeepBut.trans (qz7_) (KeepBut.of_grown hg g) (Kd.R_base2 HO_7.out)); have HO473 := Aside0.mk (ho); clear HO_7; clear ho hb hg hat))
      go_roundg k1
      case measure => have := HK1.out; omega
      case rel => exact ⟨(y471), (wrap64 (x9_1 + 1)), (t470), (g3_), H', ⟨g9_⟩, ⟨by (with_reducible repeat (first | apply Kd.R_alloc | apply Kd.R_drewN | apply Kd.R_drew)); exact Kd.R_mono HO473.out (fun _ hk => trivial)⟩, ⟨uf1_ HO_8⟩, ⟨uf0_ BK448⟩, ⟨qz45_⟩, ⟨qz7_⟩, ⟨qz46_⟩⟩
     ·rw [if_neg c28] at H
      have c28b0 : (t462 == 1) = false := beq_eq_false_iff_ne.mpr c28
      have c28b1 : (t462 != 1) = true := bne_iff_ne.mpr c28
      obtain ⟨c42, H⟩ := pos_ H
      have LMc42 := Aside0.mk c42
      clear c42
      obtain ⟨y474, hy474⟩ : ∃ y_ : List (S36), y_ = (x7_1 ++ [(⟨t458, t459⟩ : S36)]) := ⟨_, rfl⟩
      replace H : (spec_l20Pays.l0 k1 a2 y474 t452 (wrap64 (x9_1 + 1)) s0_0 t463) = some (r1, r2) := by first | (rw [hy474]; with_reducible exact H) | (have H2_ := (Option.bind_some _ _).symm.trans H; rw [hy474]; with_reducible exact H2_) | (have H2_ := (Option.bind_some _ _).symm.trans H; with_reducible exact H2_) | with_reducible exact H | (rw [hy474]; exact H) | exact H
      have Ny474 := Aside0.mk hy474
      clear hy474
      have H' := Aside0.mk H
      clear H
      obtain ⟨Ao43, co43, eo43⟩ := Kd.R_slice HO_8.out
      subst eo43
      have p455 : 0 ≤ (x9_1 : Int) := of_decide_eq_true (g1_)
      have q455 : x9_1 < (t452.length : Int) := of_decide_eq_true (g1_)
      obtain ⟨ad455, e455, hx455_0⟩ := Kd.at_int (Kd.R_reads' HO_8.out).2.2 x9_1 p455 q455
      cases e455
      replace p455 := eq_true p455
      replace q455 := eq_true q455
      go_wp2_with (first | ((with_reducible refine gate_callee (f := 87) rfl ?_); refine goesL_ (some 29) rfl rfl Try.func87 k_ rfl #[.pointer (some ⟨g, 0, none⟩), .int .i64 (wrap64 ((wrap64 ((rd t452 x9_1) * 6)) + 1))] rfl (g2_) ?_; (with_reducible refine (spec_l20Rd_pick.calls k1 g s0_0 x1001_1 (wrap64 ((wrap64 ((rd t452 x9_1) * 6)) + 1)) t456 t457 w0 _ ?side1 ?side2 A13.out).mono ?_); (case side1 => exact qz45_); (case side2 => exact qz46_); rintro e w44 ⟨rfl, hi, hb, hk⟩; refine ⟨_, rfl, ?_⟩; replace HO_7 := Aside0.mk (Kd.R_mono (Kd.R_keep (IsS79.apart (show IsS79 w0 _ g s0_0 x1001_1 from qz45_) (uf1_ HO_7) (by decide)) hk (fun _ h => h.2)) (fun _ h => h.1)); replace HO_8 := Aside0.mk (Kd.R_mono (Kd.R_keep (IsS79.apart (show IsS79 w0 _ g s0_0 x1001_1 from qz45_) (uf1_ HO_8) (by decide)) hk (fun _ h => h.2)) (fun _ h => h.1)); replace BK448 := Aside0.mk (KeepBut.blk hk (g' := gb448) (o := .cells #[.slice A1_0 l1_0.length c1_0, .slice A1_1 l1_1.length c1_1] 26 (0, 0)) (uf0_ BK448) NB448_0.out (by simp)); replace HK := Aside0.mk (KeepBut.trans (qz7_) hk (.inl rfl)); replace HB := Aside0.mk (hb); replace HI0 := Aside0.mk (hi); (try clear hb); (try clear hk hi)) | ((with_reducible refine gate_callee (f := 95) rfl ?_); refine goesL_ (some 30) rfl rfl Try.func95 k_ rfl #[.int .i64 t456, .int .i64 6] rfl (g2_) ?_; (with_reducible refine (spec_l1Low.calls k1 t456 6 t458 t459 t460 _ A14.out).mono ?_); rintro e w45 ⟨rfl, hb⟩; refine ⟨_, rfl, ?_⟩; replace HO_7 := Aside0.mk (Kd.R_below (uf1_ HO_7) hb); replace HO_8 := Aside0.mk (Kd.R_below (uf1_ HO_8) hb); replace BK448 := bb_ BK448 hb; replace HK := Aside0.mk (KeepBut.trans (qz7_) (KeepBut.of_below hb g none) (.inl rfl)); replace HB := Aside0.mk (below_step (qz46_) hb); replace HI0 := Aside0.mk (IsS79.below (qz45_) hb); (try clear hb); (try clear hk hi)) | ((with_reducible refine gate_dst (N := 10) rfl ?_); refine bx_ (N := 10) #[.int .i64 0, .int .i64 0] 36 ?_; intro gb461 hg w46 hbox hb; replace HO_7 := Aside0.mk (Kd.R_below (Kd.R_elderB (uf1_ HO_7) gb461 (Nat.le_of_eq hg.symm)) hb); replace HO_8 := Aside0.mk (Kd.R_below (uf1_ HO_8) hb); replace HB := Aside0.mk (below_step (qz46_) hb); have BK461 := Aside0.mk (hbox); have GW461 := Aside0.mk ((g42_ : w.heap.size ≤ gb461)); have GE461 := Aside0.mk ((Nat.le_trans HW0.out (g42_ : w.heap.size ≤ gb461) : w0.heap.size ≤ gb461)); replace HK := Aside0.mk (KeepBut.trans (qz7_) (KeepBut.of_below hb g none) (.inl rfl)); have NB448_461 := Aside0.mk ((g149_ : gb448 ≠ gb461)); have NB461_448 := Aside0.mk ((g150_ : gb461 ≠ gb448)); replace BK448 := bb_ BK448 hb; have NB0_461 := Aside0.mk ((by rw [hg]; exact Nat.ne_of_lt (IsS79.lt (show IsS79 w0 _ g s0_0 t457 from qz45_)) : g ≠ gb461)); have NB461_0 := Aside0.mk ((by rw [hg]; exact Nat.ne_of_gt (IsS79.lt (show IsS79 w0 _ g s0_0 t457 from qz45_)) : gb461 ≠ g)); replace HI0 := Aside0.mk (IsS79.below (qz45_) hb); clear hb hbox hg; have hnb47 := NB461_448.out; have hnc47 := NB448_461.out; have hnb48 := NB461_0.out; have hnc48 := NB0_461.out; obtain ⟨hcz49_0, hcz49_1, hfz49_0, hfz49_1⟩ := blk2_ BK461) | ((with_reducible refine gate_callee (f := 87) rfl ?_); refine goesL_ (some 34) rfl rfl Try.func87 k_ rfl #[.pointer (some ⟨g, 0, none⟩), .int .i64 4] rfl (g2_) ?_; (with_reducible refine (spec_l20Rd_pick.calls k1 g s0_0 t457 4 t462 t463 w0 _ ?side1 ?side2 A15.out).mono ?_); (case side1 => exact qz45_); (case side2 => exact qz46_); rintro e w50 ⟨rfl, hi, hb, hk⟩; refine ⟨_, rfl, ?_⟩; replace HO_7 := Aside0.mk (Kd.R_mono (Kd.R_keep (IsS79.apart (show IsS79 w0 _ g s0_0 t457 from qz45_) (g151_) (by decide)) hk (fun _ h => h.2)) (fun _ h => h.1)); replace HO_8 := Aside0.mk (Kd.R_mono (Kd.R_keep (IsS79.apart (show IsS79 w0 _ g s0_0 t457 from qz45_) (g152_) (by decide)) hk (fun _ h => h.2)) (fun _ h => h.1)); replace BK448 := Aside0.mk (KeepBut.blk hk (g' := gb448) (o := .cells #[.slice A1_0 l1_0.length c1_0, .slice A1_1 l1_1.length c1_1] 26 (0, 0)) (g83_) NB448_0.out (by simp)); replace BK461 := Aside0.mk (KeepBut.blk hk (g' := gb461) (o := .cells #[.int .i64 t458, .int .i64 t459] 36 (0, 0)) (g153_) NB461_0.out (by simp)); replace HK := Aside0.mk (KeepBut.trans (qz7_) hk (.inl rfl)); replace HB := Aside0.mk (hb); replace HI0 := Aside0.mk (hi); (try clear hb); (try clear hk hi); obtain ⟨hcz51_0, hcz51_1, hfz51_0, hfz51_1⟩ := blk2_ BK461) | ((with_reducible refine gate_builtin (b := .append) (xs := #[.tmp 52, .tmp 54]) rfl ?_); at_builtin; refine Kd.R_append k36 w.heap.size rfl (.tmp 52) (.tmp 54) 28 36 (.agg #[(.int .i64 0), (.int .i64 0)]) 16 rfl Try.underlying28 info36 rfl (by decide) (by omega) u7 x7_1 (⟨t458, t459⟩ : S36) [.int .i64 t458, .int .i64 t459] (fun k_ => k_ ≠ gb461) (fun _ => False) rfl rfl ?aP (fun _ hk => hk.elim) ?aF ?aO (Below.refl _ _) ?aS ?aL ?_; (case aP => exact k36_mkM _ _ _ (⟨t458, t459⟩ : S36)); (case aF => exact (fun k_ hk => Kd.freshB (g := gb461) (o := .cells #[.int .i64 t458, .int .i64 t459] 36 (0, 0)) (uf0_ BK461) k_ hk)); (case aO => exact (by (with_reducible repeat (first | apply Kd.R_alloc | apply Kd.R_drewN | apply Kd.R_drew)); exact Kd.R_mono HO_7.out (fun _ hk => hk.2))); (case aS => exact (keep_size (w := w) (g := g) (row := none) (qz7_))); (case aL => have := LMc42.out; omega); intro v475 w52 ho hb hg hat; rw [← Ny474.out] at ho; replace HO_8 := Aside0.mk (Kd.R_over' (uf1_ HO_8) (Kd.R_typed (uf1_ HO_7)) (by decide) hg); replace BK448 := Aside0.mk (blk_grown (g := gb448) (o := .cells #[.slice A1_0 l1_0.length c1_0, .slice A1_1 l1_1.length c1_1] 26 (0, 0)) (uf0_ BK448) hg (Kd.R_ne HO_7.out BK448.out (by decide))); replace BK461 := Aside0.mk (blk_grown (g := gb461) (o := .cells #[.int .i64 t458, .int .i64 t459] 36 (0, 0)) (uf0_ BK461) hg (Kd.R_away HO_7.out (fun _ hk => hk.2))); replace HB := Aside0.mk (below_weaken (qz46_) HL.out hb); replace HI0 := Aside0.mk (IsS79.grown (w0 := w0) (f0 := s0_0) (f1 := t463) (qz45_) hg (IsS79.own_ne HI0.out HO_7.out (by decide))); replace HK := Aside0.mk (KeepBut.trans (qz7_) (KeepBut.of_grown hg g) (Kd.R_base2 HO_7.out)); have HO476 := Aside0.mk (ho); clear HO_7; clear ho hb hg hat))
      go_roundg k1
      case measure => have := HK1.out; omega
      case rel => exact ⟨(y474), (wrap64 (x9_1 + 1)), (t463), (g3_), H', ⟨g9_⟩, ⟨by (with_reducible repeat (first | apply Kd.R_alloc | apply Kd.R_drewN | apply Kd.R_drew)); exact Kd.R_mono HO476.out (fun _ hk => trivial)⟩, ⟨uf1_ HO_8⟩, ⟨uf0_ BK448⟩, ⟨qz45_⟩, ⟨qz7_⟩, ⟨qz46_⟩⟩
   ·rw [if_neg c11] at H
    have c11b0 := decide_eq_false c11
    clear c11
    replace H := Option.bind_eq_some_iff.mp H
    obtain ⟨⟨t477, t478⟩, A530, H⟩ := H
    replace H : (if t477 = true then (if (x7_1.length : Int) = 0 then (if x7_1.length < 8796093022208 then (some ((x7_1 ++ [(⟨0, 1⟩ : S36)]), t478)) else (none)) else ((spec_l20Rd_pick.f k1 s0_0 t478 2).bind fun bt482 => (if bt482.1 = 0 then (if x7_1.length < 8796093022208 then (some ((x7_1 ++ [(⟨0, 1⟩ : S36)]), bt482.2)) else (none)) else ((some (([(⟨0, 0⟩ : S36), (⟨(-1), 1⟩ : S36), (⟨100, 1⟩ : S36)] : List (S36)) : List (S36))).bind fun y487 => ((spec_l20Rd_pick.f k1 s0_0 bt482.2 3).bind fun bt490 => (if 0 ≤ bt490.1 then (if bt490.1 < (y487.length : Int) then (if 0 < (x7_1.length : Int) then (some ((x7_1.set (0 : Int).toNat (⟨(rd_T36 y487 bt490.1).f0, (rd_T36 y487 bt490.1).f1⟩ : S36)), bt490.2)) else (none)) else (none)) else (none))))))) else (some (x7_1, t478))) = some (r1, r2) := H
    have A53 := Aside0.mk A530
    clear A530
    by_cases c54 : t477 = true
    ·subst c54
     replace H := ifp_ H
     by_cases c55 : (x7_1.length : Int) = 0
     ·rw [if_pos c55] at H
      have c55b0 : ((x7_1.length : Int) == 0) = true := beq_iff_eq.mpr c55
      have c55b1 : ((x7_1.length : Int) != 0) = false := bne_eq_false_iff_eq.mpr c55
      clear c55
      obtain ⟨c56, H⟩ := pos_ H
      have LMc56 := Aside0.mk c56
      clear c56
      obtain ⟨y479, hy479⟩ : ∃ y_ : List (S36), y_ = (x7_1 ++ [(⟨0, 1⟩ : S36)]) := ⟨_, rfl⟩
      replace H : (some (y479, t478)) = some (r1, r2) := by first | (rw [hy479]; with_reducible exact H) | (have H2_ := (Option.bind_some _ _).symm.trans H; rw [hy479]; with_reducible exact H2_) | (have H2_ := (Option.bind_some _ _).symm.trans H; with_reducible exact H2_) | with_reducible exact H | (rw [hy479]; exact H) | exact H
      have Ny479 := Aside0.mk hy479
      clear hy479
      simp only [Option.some.injEq, Prod.mk.injEq] at H
      obtain ⟨rfl, rfl⟩ := H
      obtain ⟨Ao57, co57, eo57⟩ := Kd.R_slice HO_8.out
      subst eo57
      go_wp2_with (first | ((with_reducible refine gate_callee (f := 88) rfl ?_); refine goesL_ (some 58) rfl rfl Try.func88 k_ rfl #[.pointer (some ⟨g, 0, none⟩), .int .i64 a2] rfl (g2_) ?_; (with_reducible refine (spec_l20Rd_odd.calls k1 g s0_0 x1001_1 a2 true t478 w0 _ ?side1 ?side2 A53.out).mono ?_); (case side1 => exact qz45_); (case side2 => exact qz46_); rintro e w58 ⟨rfl, hi, hb, hk⟩; refine ⟨_, rfl, ?_⟩; replace HO_7 := Aside0.mk (Kd.R_mono (Kd.R_keep (IsS79.apart (show IsS79 w0 _ g s0_0 x1001_1 from qz45_) (uf1_ HO_7) (by decide)) hk (fun _ h => h.2)) (fun _ h => h.1)); replace HO_8 := Aside0.mk (Kd.R_mono (Kd.R_keep (IsS79.apart (show IsS79 w0 _ g s0_0 x1001_1 from qz45_) (uf1_ HO_8) (by decide)) hk (fun _ h => h.2)) (fun _ h => h.1)); replace BK448 := Aside0.mk (KeepBut.blk hk (g' := gb448) (o := .cells #[.slice A1_0 l1_0.length c1_0, .slice A1_1 l1_1.length c1_1] 26 (0, 0)) (uf0_ BK448) NB448_0.out (by simp)); replace HK := Aside0.mk (KeepBut.trans (qz7_) hk (.inl rfl)); replace HB := Aside0.mk (hb); replace HI0 := Aside0.mk (hi); (try clear hb); (try clear hk hi); obtain ⟨Ao59, co59, eo59⟩ := Kd.R_slice HO_7.out; subst eo59) | ((with_reducible refine gate_builtin (b := .append) (xs := #[.tmp 67, .tmp 69]) rfl ?_); at_builtin; refine Kd.R_append k36 w.heap.size rfl (.tmp 67) (.tmp 69) 28 36 (.agg #[(.int .i64 0), (.int .i64 0)]) 16 rfl Try.underlying28 info36 rfl (by decide) (by omega) (.slice Ao59 x7_1.length co59) x7_1 (⟨0, 1⟩ : S36) [.int .i64 0, .int .i64 1] (fun _ => True) (fun _ => False) rfl rfl ?aP (fun _ hk => hk.elim) ?aF ?aO (Below.refl _ _) ?aS ?aL ?_; (case aP => exact k36_mkM _ _ _ (⟨0, 1⟩ : S36)); (case aF => exact (fun _ _ => trivial)); (case aO => exact (uf1_ HO_7)); (case aS => exact (keep_size (w := w) (g := g) (row := none) (qz7_))); (case aL => have := LMc56.out; omega); intro v480 w60 ho hb hg hat; rw [← Ny479.out] at ho; replace HO_8 := Aside0.mk (Kd.R_over' (uf1_ HO_8) (Kd.R_typed (uf1_ HO_7)) (by decide) hg); replace BK448 := Aside0.mk (blk_grown (g := gb448) (o := .cells #[.slice A1_0 l1_0.length c1_0, .slice A1_1 l1_1.length c1_1] 26 (0, 0)) (uf0_ BK448) hg (Kd.R_ne HO_7.out BK448.out (by decide))); replace HB := Aside0.mk (below_weaken (qz46_) HL.out hb); replace HI0 := Aside0.mk (IsS79.grown (w0 := w0) (f0 := s0_0) (f1 := t478) (qz45_) hg (IsS79.own_ne HI0.out HO_7.out (by decide))); replace HK := Aside0.mk (KeepBut.trans (qz7_) (KeepBut.of_grown hg g) (Kd.R_base2 HO_7.out)); have HO481 := Aside0.mk (ho); clear HO_7; clear ho hb hg hat))
      go_ret
      exact ⟨_, g4_, uf1_ HO481, qz45_, qz46_, qz7_⟩
     ·rw [if_neg c55] at H
      have c55b0 : ((x7_1.length : Int) == 0) = false := beq_eq_false_iff_ne.mpr c55
      have c55b1 : ((x7_1.length : Int) != 0) = true := bne_iff_ne.mpr c55
      have c55b2 : ¬ (x7_1 = []) := fun h_ => c55 (g46_)
      replace H := Option.bind_eq_some_iff.mp H
      obtain ⟨⟨t482, t483⟩, A610, H⟩ := H
      replace H : (if t482 = 0 then (if x7_1.length < 8796093022208 then (some ((x7_1 ++ [(⟨0, 1⟩ : S36)]), t483)) else (none)) else ((some (([(⟨0, 0⟩ : S36), (⟨(-1), 1⟩ : S36), (⟨100, 1⟩ : S36)] : List (S36)) : List (S36))).bind fun y487 => ((spec_l20Rd_pick.f k1 s0_0 t483 3).bind fun bt490 => (if 0 ≤ bt490.1 then (if bt490.1 < (y487.length : Int) then (if 0 < (x7_1.length : Int) then (some ((x7_1.set (0 : Int).toNat (⟨(rd_T36 y487 bt490.1).f0, (rd_T36 y487 bt490.1).f1⟩ : S36)), bt490.2)) else (none)) else (none)) else (none))))) = some (r1, r2) := H
      have A61 := Aside0.mk A610
      clear A610
      by_cases c62 : t482 = 0
      ·rw [if_pos c62] at H
       have c62b0 : (t482 == 0) = true := beq_iff_eq.mpr c62
       have c62b1 : (t482 != 0) = false := bne_eq_false_iff_eq.mpr c62
       clear c62
       obtain ⟨c63, H⟩ := pos_ H
       have LMc63 := Aside0.mk c63
       clear c63
       obtain ⟨y484, hy484⟩ : ∃ y_ : List (S36), y_ = (x7_1 ++ [(⟨0, 1⟩ : S36)]) := ⟨_, rfl⟩
       replace H : (some (y484, t483)) = some (r1, r2) := by first | (rw [hy484]; with_reducible exact H) | (have H2_ := (Option.bind_some _ _).symm.trans H; rw [hy484]; with_reducible exact H2_) | (have H2_ := (Option.bind_some _ _).symm.trans H; with_reducible exact H2_) | with_reducible exact H | (rw [hy484]; exact H) | exact H
       have Ny484 := Aside0.mk hy484
       clear hy484
       simp only [Option.some.injEq, Prod.mk.injEq] at H
       obtain ⟨rfl, rfl⟩ := H
       obtain ⟨Ao64, co64, eo64⟩ := Kd.R_slice HO_8.out
       subst eo64
       go_wp2_with (first | ((with_reducible refine gate_callee (f := 88) rfl ?_); refine goesL_ (some 58) rfl rfl Try.func88 k_ rfl #[.pointer (some ⟨g, 0, none⟩), .int .i64 a2] rfl (g2_) ?_; (with_reducible refine (spec_l20Rd_odd.calls k1 g s0_0 x1001_1 a2 true t478 w0 _ ?side1 ?side2 A53.out).mono ?_); (case side1 => exact qz45_); (case side2 => exact qz46_); rintro e w65 ⟨rfl, hi, hb, hk⟩; refine ⟨_, rfl, ?_⟩; replace HO_7 := Aside0.mk (Kd.R_mono (Kd.R_keep (IsS79.apart (show IsS79 w0 _ g s0_0 x1001_1 from qz45_) (uf1_ HO_7) (by decide)) hk (fun _ h => h.2)) (fun _ h => h.1)); replace HO_8 := Aside0.mk (Kd.R_mono (Kd.R_keep (IsS79.apart (show IsS79 w0 _ g s0_0 x1001_1 from qz45_) (uf1_ HO_8) (by decide)) hk (fun _ h => h.2)) (fun _ h => h.1)); replace BK448 := Aside0.mk (KeepBut.blk hk (g' := gb448) (o := .cells #[.slice A1_0 l1_0.length c1_0, .slice A1_1 l1_1.length c1_1] 26 (0, 0)) (uf0_ BK448) NB448_0.out (by simp)); replace HK := Aside0.mk (KeepBut.trans (qz7_) hk (.inl rfl)); replace HB := Aside0.mk (hb); replace HI0 := Aside0.mk (hi); (try clear hb); (try clear hk hi); obtain ⟨Ao66, co66, eo66⟩ := Kd.R_slice HO_7.out; subst eo66) | (go_at_call 87; (with_reducible refine (spec_l20Rd_pick.calls k1 g s0_0 t478 2 t482 t483 w0 _ ?side1 ?side2 A61.out).mono ?_); (case side1 => exact qz45_); (case side2 => exact qz46_); rintro e w67 ⟨rfl, hi, hb, hk⟩; replace HO_7 := Aside0.mk (Kd.R_mono (Kd.R_keep (IsS79.apart (show IsS79 w0 _ g s0_0 t478 from qz45_) (uf1_ HO_7) (by decide)) hk (fun _ h => h.2)) (fun _ h => h.1)); replace HO_8 := Aside0.mk (Kd.R_mono (Kd.R_keep (IsS79.apart (show IsS79 w0 _ g s0_0 t478 from qz45_) (uf1_ HO_8) (by decide)) hk (fun _ h => h.2)) (fun _ h => h.1)); replace BK448 := Aside0.mk (KeepBut.blk hk (g' := gb448) (o := .cells #[.slice A1_0 l1_0.length c1_0, .slice A1_1 l1_1.length c1_1] 26 (0, 0)) (uf0_ BK448) NB448_0.out (by simp)); replace HK := Aside0.mk (KeepBut.trans (qz7_) hk (.inl rfl)); replace HB := Aside0.mk (hb); replace HI0 := Aside0.mk (hi); (try clear hb); (try clear hk hi)) | ((with_reducible refine gate_builtin (b := .append) (xs := #[.tmp 67, .tmp 69]) rfl ?_); at_builtin; refine Kd.R_append k36 w.heap.size rfl (.tmp 67) (.tmp 69) 28 36 (.agg #[(.int .i64 0), (.int .i64 0)]) 16 rfl Try.underlying28 info36 rfl (by decide) (by omega) (.slice Ao66 x7_1.length co66) x7_1 (⟨0, 1⟩ : S36) [.int .i64 0, .int .i64 1] (fun _ => True) (fun _ => False) rfl rfl ?aP (fun _ hk => hk.elim) ?aF ?aO (Below.refl _ _) ?aS ?aL ?_; (case aP => exact k36_mkM _ _ _ (⟨0, 1⟩ : S36)); (case aF => exact (fun _ _ => trivial)); (case aO => exact (uf1_ HO_7)); (case aS => exact (keep_size (w := w) (g := g) (row := none) (qz7_))); (case aL => have := LMc63.out; omega); intro v485 w68 ho hb hg hat; rw [← Ny484.out] at ho; replace HO_8 := Aside0.mk (Kd.R_over' (uf1_ HO_8) (Kd.R_typed (uf1_ HO_7)) (by decide) hg); replace BK448 := Aside0.mk (blk_grown (g := gb448) (o := .cells #[.slice A1_0 l1_0.length c1_0, .slice A1_1 l1_1.length c1_1] 26 (0, 0)) (uf0_ BK448) hg (Kd.R_ne HO_7.out BK448.out (by decide))); replace HB := Aside0.mk (below_weaken (qz46_) HL.out hb); replace HI0 := Aside0.mk (IsS79.grown (w0 := w0) (f0 := s0_0) (f1 := t483) (qz45_) hg (IsS79.own_ne HI0.out HO_7.out (by decide))); replace HK := Aside0.mk (KeepBut.trans (qz7_) (KeepBut.of_grown hg g) (Kd.R_base2 HO_7.out)); have HO486 := Aside0.mk (ho); clear HO_7; clear ho hb hg hat))
       go_ret
       exact ⟨_, g4_, uf1_ HO486, qz45_, qz46_, qz7_⟩
      ·rw [if_neg c62] at H
       have c62b0 : (t482 == 0) = false := beq_eq_false_iff_ne.mpr c62
       have c62b1 : (t482 != 0) = true := bne_iff_ne.mpr c62
       obtain ⟨y487, hy487⟩ : ∃ y_ : List (S36), y_ = (([(⟨0, 0⟩ : S36), (⟨(-1), 1⟩ : S36), (⟨100, 1⟩ : S36)] : List (S36))) := ⟨_, rfl⟩
       replace H : ((spec_l20Rd_pick.f k1 s0_0 t483 3).bind fun bt490 => (if 0 ≤ bt490.1 then (if bt490.1 < (y487.length : Int) then (if 0 < (x7_1.length : Int) then (some ((x7_1.set (0 : Int).toNat (⟨(rd_T36 y487 bt490.1).f0, (rd_T36 y487 bt490.1).f1⟩ : S36)), bt490.2)) else (none)) else (none)) else (none))) = some (r1, r2) := by first | (rw [hy487]; with_reducible exact H) | (have H2_ := (Option.bind_some _ _).symm.trans H; rw [hy487]; with_reducible exact H2_) | (have H2_ := (Option.bind_some _ _).symm.trans H; with_reducible exact H2_) | with_reducible exact H | (rw [hy487]; exact H) | exact H
       have Ny487 := Aside0.mk hy487
       clear hy487
       replace H := Option.bind_eq_some_iff.mp H
       obtain ⟨⟨t490, t491⟩, A690, H⟩ := H
       replace H : (if 0 ≤ t490 then (if t490 < (y487.length : Int) then (if 0 < (x7_1.length : Int) then (some ((x7_1.set (0 : Int).toNat (⟨(rd_T36 y487 t490).f0, (rd_T36 y487 t490).f1⟩ : S36)), t491)) else (none)) else (none)) else (none)) = some (r1, r2) := H
       have A69 := Aside0.mk A690
       clear A690
       obtain ⟨c70, H⟩ := pos_ H
       have c70b0 := decide_eq_true c70
       clear c70
       obtain ⟨c71, H⟩ := pos_ H
       have c71b0 := decide_eq_true c71
       clear c71
       obtain ⟨c72, H⟩ := pos_ H
       have c72b0 := decide_eq_true c72
       have c72b1 : decide (0 < x7_1.length) = true := decide_eq_true (by omega)
       clear c72
       obtain ⟨y493, hy493⟩ : ∃ y_ : List (S36), y_ = (x7_1.set (0 : Int).toNat (⟨(rd_T36 y487 t490).f0, (rd_T36 y487 t490).f1⟩ : S36)) := ⟨_, rfl⟩
       replace H : (some (y493, t491)) = some (r1, r2) := by first | (rw [hy493]; with_reducible exact H) | (have H2_ := (Option.bind_some _ _).symm.trans H; rw [hy493]; with_reducible exact H2_) | (have H2_ := (Option.bind_some _ _).symm.trans H; with_reducible exact H2_) | with_reducible exact H | (rw [hy493]; exact H) | exact H
       have Ny493 := Aside0.mk hy493
       clear hy493
       simp only [Option.some.injEq, Prod.mk.injEq] at H
       obtain ⟨rfl, rfl⟩ := H
       obtain ⟨Ao74, co74, eo74⟩ := Kd.R_slice HO_8.out
       subst eo74
       go_wp2_with (first | ((with_reducible refine gate_callee (f := 88) rfl ?_); refine goesL_ (some 58) rfl rfl Try.func88 k_ rfl #[.pointer (some ⟨g, 0, none⟩), .int .i64 a2] rfl (g2_) ?_; (with_reducible refine (spec_l20Rd_odd.calls k1 g s0_0 x1001_1 a2 true t478 w0 _ ?side1 ?side2 A53.out).mono ?_); (case side1 => exact qz45_); (case side2 => exact qz46_); rintro e w75 ⟨rfl, hi, hb, hk⟩; refine ⟨_, rfl, ?_⟩; replace HO_7 := Aside0.mk (Kd.R_mono (Kd.R_keep (IsS79.apart (show IsS79 w0 _ g s0_0 x1001_1 from qz45_) (uf1_ HO_7) (by decide)) hk (fun _ h => h.2)) (fun _ h => h.1)); replace HO_8 := Aside0.mk (Kd.R_mono (Kd.R_keep (IsS79.apart (show IsS79 w0 _ g s0_0 x1001_1 from qz45_) (uf1_ HO_8) (by decide)) hk (fun _ h => h.2)) (fun _ h => h.1)); replace BK448 := Aside0.mk (KeepBut.blk hk (g' := gb448) (o := .cells #[.slice A1_0 l1_0.length c1_0, .slice A1_1 l1_1.length c1_1] 26 (0, 0)) (uf0_ BK448) NB448_0.out (by simp)); replace HK := Aside0.mk (KeepBut.trans (qz7_) hk (.inl rfl)); replace HB := Aside0.mk (hb); replace HI0 := Aside0.mk (hi); (try clear hb); (try clear hk hi); obtain ⟨Ao76, co76, eo76⟩ := Kd.R_slice HO_7.out; subst eo76) | (go_at_call 87; (with_reducible refine (spec_l20Rd_pick.calls k1 g s0_0 t478 2 t482 t483 w0 _ ?side1 ?side2 A61.out).mono ?_); (case side1 => exact qz45_); (case side2 => exact qz46_); rintro e w77 ⟨rfl, hi, hb, hk⟩; replace HO_7 := Aside0.mk (Kd.R_mono (Kd.R_keep (IsS79.apart (show IsS79 w0 _ g s0_0 t478 from qz45_) (uf1_ HO_7) (by decide)) hk (fun _ h => h.2)) (fun _ h => h.1)); replace HO_8 := Aside0.mk (Kd.R_mono (Kd.R_keep (IsS79.apart (show IsS79 w0 _ g s0_0 t478 from qz45_) (uf1_ HO_8) (by decide)) hk (fun _ h => h.2)) (fun _ h => h.1)); replace BK448 := Aside0.mk (KeepBut.blk hk (g' := gb448) (o := .cells #[.slice A1_0 l1_0.length c1_0, .slice A1_1 l1_1.length c1_1] 26 (0, 0)) (uf0_ BK448) NB448_0.out (by simp)); replace HK := Aside0.mk (KeepBut.trans (qz7_) hk (.inl rfl)); replace HB := Aside0.mk (hb); replace HI0 := Aside0.mk (hi); (try clear hb); (try clear hk hi)) | ((with_reducible refine gate_dst (N := 75) rfl ?_); refine Kd.R_lit k36 _ 36 ?hg (N := 75) ?hd (xs := ([(⟨0, 0⟩ : S36), (⟨(-1), 1⟩ : S36), (⟨100, 1⟩ : S36)] : List (S36))) (inner := [.int .i64 0, .int .i64 0, .int .i64 (-1), .int .i64 1, .int .i64 100, .int .i64 1]) (ok := fun _ => True) (okp := fun _ => True) ?hr ?hp (fun _ hk => hk) trivial (Below.refl _ _) (Nat.le_refl _) (by simp) ?_; (case hd => rfl); (case hg => rfl); (case hr => first | (go_simp; done) | (go_simp; rfl)); (case hp => exact (Reps.c2 (show Kd.M k36 _ _ _ (⟨0, 0⟩ : S36) [.int .i64 0, .int .i64 0] from (k36_mkM _ _ _ (⟨0, 0⟩ : S36) )) (Reps.c2 (show Kd.M k36 _ _ _ (⟨(-1), 1⟩ : S36) [.int .i64 (-1), .int .i64 1] from (k36_mkM _ _ _ (⟨(-1), 1⟩ : S36) )) (Reps.c2 (show Kd.M k36 _ _ _ (⟨100, 1⟩ : S36) [.int .i64 100, .int .i64 1] from (k36_mkM _ _ _ (⟨100, 1⟩ : S36) )) (Reps.none _ _))))); intro v488 w78 ho79 hb hg_ hnew_; clear hg_ hnew_; (first | rw [← Ny487.out] at ho79 | (simp only [Int.reduceToNat] at ho79; rw [← Ny487.out] at ho79)); replace HO_8 := Aside0.mk (Kd.R_below (uf1_ HO_8) hb); have HO489 := Aside0.mk (Kd.R_lower (Kd.R_new' ho79 (Kd.R_lt (uf1_ HO_7))) (keep_size (w := w) (g := g) (row := none) (qz7_))); replace HO_7 := Aside0.mk (Kd.R_elder' (uf1_ HO_7) (Kd.R_base ho79) hb); replace BK448 := bb_ BK448 hb; replace HK := Aside0.mk (KeepBut.trans (qz7_) (KeepBut.of_below hb g none) (.inl rfl)); replace HB := Aside0.mk (below_step (qz46_) hb); replace HI0 := Aside0.mk (IsS79.below (qz45_) hb); clear hb ho79) | ((with_reducible refine gate_callee (f := 87) rfl ?_); refine goesL_ (some 77) rfl rfl Try.func87 k_ rfl #[.pointer (some ⟨g, 0, none⟩), .int .i64 3] rfl (g2_) ?_; (with_reducible refine (spec_l20Rd_pick.calls k1 g s0_0 t483 3 t490 t491 w0 _ ?side1 ?side2 A69.out).mono ?_); (case side1 => exact qz45_); (case side2 => exact qz46_); rintro e w80 ⟨rfl, hi, hb, hk⟩; refine ⟨_, rfl, ?_⟩; replace HO_7 := Aside0.mk (Kd.R_mono (Kd.R_keep (IsS79.apart (show IsS79 w0 _ g s0_0 t483 from qz45_) (uf1_ HO_7) (by decide)) hk (fun _ h => h.2)) (fun _ h => h.1)); replace HO_8 := Aside0.mk (Kd.R_mono (Kd.R_keep (IsS79.apart (show IsS79 w0 _ g s0_0 t483 from qz45_) (uf1_ HO_8) (by decide)) hk (fun _ h => h.2)) (fun _ h => h.1)); replace BK448 := Aside0.mk (KeepBut.blk hk (g' := gb448) (o := .cells #[.slice A1_0 l1_0.length c1_0, .slice A1_1 l1_1.length c1_1] 26 (0, 0)) (uf0_ BK448) NB448_0.out (by simp)); replace HO489 := Aside0.mk (Kd.R_mono (Kd.R_keep (IsS79.apart (show IsS79 w0 _ g s0_0 t483 from qz45_) (uf1_ HO489) (by decide)) hk (fun _ h => h.2)) (fun _ h => h.1)); replace HK := Aside0.mk (KeepBut.trans (qz7_) hk (.inl rfl)); replace HB := Aside0.mk (hb); replace HI0 := Aside0.mk (hi); (try clear hb); (try clear hk hi); obtain ⟨Ao81, co81, eo81⟩ := Kd.R_slice HO489.out; subst eo81; have p492 : 0 ≤ (t490 : Int) := of_decide_eq_true (g1_); have q492 : t490 < (y487.length : Int) := of_decide_eq_true (g1_); obtain ⟨ad492, e492, hx492_0, hx492_1⟩ := at_T36 (Kd.R_reads' HO489.out).2.2 t490 p492 q492; cases e492; replace p492 := eq_true p492; replace q492 := eq_true q492; have p73 : 0 ≤ (0 : Int) := (by omega); have q73 : (0 : Int) < ((x7_1.length : Int) : Int) := of_decide_eq_true (g1_); have qi73 : (0 < x7_1.length) = True := eq_true (by omega); obtain ⟨go73, co73, eo73, gb73, gl73, cl73, HG73⟩ := Kd.R_form HO_7.out (by omega); (first | cases eo73 | (injection eo73 with ea_ en_ ec_; (first | subst ea_ | (injection ea_ with ea_; subst ea_)); subst ec_; clear en_)); have GB73 := Aside0.mk gb73; have GG73 := Aside0.mk HG73; clear gb73 gl73 HG73; obtain ⟨ce73, hcl73, hM73, hcc73, hfr73⟩ := Kd.R_elem HO_7.out z36 (0 : Int) p73 q73; obtain rfl := k36_openM hM73; have hx73_0 : w80.cell? ⟨go73, (0 : Int).toNat * 2, none⟩ = some (.int .i64 ((rd_T36 x7_1 0).f0)) := hcc73 0 _ rfl; have hx73_1 : w80.cell? ⟨go73, (0 : Int).toNat * 2 + 1, none⟩ = some (.int .i64 ((rd_T36 x7_1 0).f1)) := hcc73 1 _ rfl; have hf73_0 : w80.frozen? ⟨go73, (0 : Int).toNat * 2, none⟩ = false := hfr73 0; have hf73_1 : w80.frozen? ⟨go73, (0 : Int).toNat * 2 + 1, none⟩ = false := hfr73 1; clear hcl73 hcc73 hfr73 hM73; (try rw [show ((0 : Int)).toNat = 0 from rfl] at hx73_0); (try simp only [Nat.reduceMul, Nat.zero_mul, Nat.zero_add, Nat.reduceAdd] at hx73_0); (try rw [show ((0 : Int)).toNat = 0 from rfl] at hf73_0); (try simp only [Nat.reduceMul, Nat.zero_mul, Nat.zero_add, Nat.reduceAdd] at hf73_0); (try rw [show ((0 : Int)).toNat = 0 from rfl] at hx73_1); (try simp only [Nat.reduceMul, Nat.zero_mul, Nat.zero_add, Nat.reduceAdd] at hx73_1); (try rw [show ((0 : Int)).toNat = 0 from rfl] at hf73_1); (try simp only [Nat.reduceMul, Nat.zero_mul, Nat.zero_add, Nat.reduceAdd] at hf73_1); replace p73 := eq_true p73; replace q73 := eq_true q73; have n_ := Aside0.mk (Kd.R_mono (ok' := (fun k_ => some k_ ≠ (.slice (some ad492) y487.length co81 : Value).ownBlock)) HO_7.out (fun k_ hk => hk.2)); clear HO_7; have HO_7 := n_; clear n_; have HX82 := Aside0.mk (show Kd.R k36 36 w80 w.heap.size (fun k_ => some k_ ≠ (.slice (some ad492) y487.length co81 : Value).ownBlock) (.slice (some ⟨go73, 0, none⟩) x7_1.length co76) x7_1 from (uf1_ HO_7)); obtain ⟨ce82, hcl82, hM82, hcc82, hfr82⟩ := Kd.R_elem HX82.out z36 (0 : Int) (by omega) (by have h_ : (0 : Int) < ((x7_1.length : Int) : Int) := of_decide_eq_true (g1_); first | exact h_ | (have e_ := (Kd.R_reads' HO_7.out).1; omega) | simpa using h_); obtain rfl := k36_openM hM82; have HP82 := Kd.R_seg HX82.out (0 : Int) (by omega) (by have h_ : (0 : Int) < ((x7_1.length : Int) : Int) := of_decide_eq_true (g1_); first | exact h_ | (have e_ := (Kd.R_reads' HO_7.out).1; omega) | simpa using h_) (seg := [.int .i64 ((rd_T36 y487 t490).f0), .int .i64 ((rd_T36 y487 t490).f1)]) (j := 0) hcl82 hcc82 (show 2 ≤ 2 from by decide) (x' := (⟨(rd_T36 y487 t490).f0, (rd_T36 y487 t490).f1⟩ : S36)) (k36_mkM _ _ _ (⟨(rd_T36 y487 t490).f0, (rd_T36 y487 t490).f1⟩ : S36) ) (fun _ hk => hk); have hx82_0 := hcc82 0 _ rfl; (try simp only [show (k36).sz = 2 from rfl, Nat.mul_one, Nat.add_zero] at hx82_0); (try rw [show ((0 : Int)).toNat = 0 from rfl] at hx82_0); (try simp only [Nat.reduceMul, Nat.zero_mul, Nat.zero_add, Nat.reduceAdd] at hx82_0); have hf82_0 := hfr82 0; (try simp only [show (k36).sz = 2 from rfl, Nat.mul_one, Nat.add_zero] at hf82_0); (try rw [show ((0 : Int)).toNat = 0 from rfl] at hf82_0); (try simp only [Nat.reduceMul, Nat.zero_mul, Nat.zero_add, Nat.reduceAdd] at hf82_0); have hx82_1 := hcc82 1 _ rfl; (try simp only [show (k36).sz = 2 from rfl, Nat.mul_one, Nat.add_zero] at hx82_1); (try rw [show ((0 : Int)).toNat = 0 from rfl] at hx82_1); (try simp only [Nat.reduceMul, Nat.zero_mul, Nat.zero_add, Nat.reduceAdd] at hx82_1); have hf82_1 := hfr82 1; (try simp only [show (k36).sz = 2 from rfl, Nat.mul_one, Nat.add_zero] at hf82_1); (try rw [show ((0 : Int)).toNat = 0 from rfl] at hf82_1); (try simp only [Nat.reduceMul, Nat.zero_mul, Nat.zero_add, Nat.reduceAdd] at hf82_1); clear hcl82 hcc82 hfr82 hM82) | ((with_reducible refine gate_store (t := 36) (p := 80) rfl ?_); refine store_event (t := 36) (p := 80) (v := ?vo_w83) (w1 := ((w80.setCell ⟨go73, 0, none⟩ (.int .i64 ((rd_T36 y487 t490).f0))).setCell ⟨go73, 1, none⟩ (.int .i64 ((rd_T36 y487 t490).f1)))) ?hg ?ho ?hn ?hr ?_; (case ho => rfl); (case hg => rfl); (case hn => rfl); (case hr => first | (go_simp; done) | (go_simp; rfl)); intro w83 hw; have hg : w80.grownBy w83 (some go73) := (by rw [hw]; exact HP82.2); have hp_ : Kd.R k36 36 w83 w.heap.size (fun k_ => some k_ ≠ (.slice (some ad492) y487.length co81 : Value).ownBlock) (.slice (some ⟨go73, 0, none⟩) x7_1.length co76) y493 := (by rw [hw, Ny493.out]; exact HP82.1); clear HP82; replace HO_8 := Aside0.mk (Kd.R_over' (v := (.slice (some ⟨go73, 0, none⟩) x7_1.length co76)) (uf1_ HO_8) (Kd.R_typed HO_7.out) (by decide) hg); replace BK448 := Aside0.mk (blk_grown (g := gb448) (o := .cells #[.slice A1_0 l1_0.length c1_0, .slice A1_1 l1_1.length c1_1] 26 (0, 0)) (uf0_ BK448) hg (Kd.R_ne HO_7.out BK448.out (by decide))); replace HI0 := Aside0.mk (IsS79.grown (w0 := w0) (f0 := s0_0) (f1 := t491) (qz45_) hg (IsS79.own_ne HI0.out HO_7.out (by decide))); replace HO489 := Aside0.mk (Kd.R_after (v := (.slice (some ⟨go73, 0, none⟩) x7_1.length co76)) (v1 := (.slice (some ⟨go73, 0, none⟩) x7_1.length co76)) (ok := (fun _ => True)) (uf1_ HO489) hg (.inl rfl)); replace HB := Aside0.mk ((by rw [hw]; exact below_set (below_set (HB.out) (Nat.le_trans HL.out GB73.out)) (Nat.le_trans HL.out GB73.out) : Below w0.heap.size w0 w83)); replace HK := Aside0.mk (KeepBut.trans (qz7_) (KeepBut.of_grown hg g) (Kd.R_base2 HO_7.out)); replace HO_7 := Aside0.mk (hp_); clear hg hw hp_))
       go_ret
       exact ⟨_, g4_, by (with_reducible repeat (first | apply Kd.R_alloc | apply Kd.R_drewN | apply Kd.R_drew)); exact Kd.R_mono HO_7.out (fun _ hk => trivial), qz45_, qz46_, qz7_⟩
    ·replace c54 := Bool.eq_false_iff.mpr c54
     subst c54
     replace H := ifn_ H
     simp only [Option.some.injEq, Prod.mk.injEq] at H
     obtain ⟨rfl, rfl⟩ := H
     obtain ⟨Ao84, co84, eo84⟩ := Kd.R_slice HO_8.out
     subst eo84
     go_wp2_with (first | ((with_reducible refine gate_callee (f := 88) rfl ?_); refine goesL_ (some 58) rfl rfl Try.func88 k_ rfl #[.pointer (some ⟨g, 0, none⟩), .int .i64 a2] rfl (g2_) ?_; (with_reducible refine (spec_l20Rd_odd.calls k1 g s0_0 x1001_1 a2 false t478 w0 _ ?side1 ?side2 A53.out).mono ?_); (case side1 => exact qz45_); (case side2 => exact qz46_); rintro e w85 ⟨rfl, hi, hb, hk⟩; refine ⟨_, rfl, ?_⟩; replace HO_7 := Aside0.mk (Kd.R_mono (Kd.R_keep (IsS79.apart (show IsS79 w0 _ g s0_0 x1001_1 from qz45_) (uf1_ HO_7) (by decide)) hk (fun _ h => h.2)) (fun _ h => h.1)); replace HO_8 := Aside0.mk (Kd.R_mono (Kd.R_keep (IsS79.apart (show IsS79 w0 _ g s0_0 x1001_1 from qz45_) (uf1_ HO_8) (by decide)) hk (fun _ h => h.2)) (fun _ h => h.1)); replace BK448 := Aside0.mk (KeepBut.blk hk (g' := gb448) (o := .cells #[.slice A1_0 l1_0.length c1_0, .slice A1_1 l1_1.length c1_1] 26 (0, 0)) (uf0_ BK448) NB448_0.out (by simp)); replace HK := Aside0.mk (KeepBut.trans (qz7_) hk (.inl rfl)); replace HB := Aside0.mk (hb); replace HI0 := Aside0.mk (hi); (try clear hb); (try clear hk hi)))
     go_ret
     exact ⟨_, g4_, uf1_ HO_7, qz45_, qz46_, qz7_⟩
def spec_l20Paid.f (k : Nat) (s0_0 : List Int) (s0_1 : Int) : Option (List Int × (List (List Int)) × (List (S36)) × Int) := (spec_l20Book.f k s0_0 s0_1 20).bind fun bt551 => ((spec_l20Pays.f k s0_0 bt551.2.2 bt551.1 bt551.2.1 14).bind fun bt559 => (some (bt551.1, bt551.2.1, bt559.1, bt559.2)))
theorem spec_l20Paid.mq {p : Prop} (h : p := by
 repeat' first
 | (with_reducible exact spec_l20Book.mono _ _ _ _)
 | (with_reducible exact spec_l20Pays.mono _ _ _ _ _ _)
 | (with_reducible exact LeO.refl _)
 | (with_reducible exact LeO.none _)
 | (with_reducible refine LeO.ite ?_ ?_)
 | (with_reducible refine LeO.bind ?_ (fun _ => ?_))
 | exact spec_l20Book.mono _ _ _ _
 | exact spec_l20Pays.mono _ _ _ _ _ _
 | exact LeO.none _
 | refine LeO.ite ?_ ?_
 | refine LeO.bind ?_ (fun _ => ?_)) : p := h
theorem spec_l20Paid.mono : ∀ a0 a1 k, LeO (spec_l20Paid.f k a0 a1) (spec_l20Paid.f (k + 1) a0 a1) := by
 intro a0 a1 k
 unfold spec_l20Paid.f
 exact spec_l20Paid.mq
theorem qz47_ {p : Prop} (h : p := by repeat (first | (with_reducible first | exact HI0.out | apply IsS79.alloc | apply IsS79.drewN | apply IsS79.drew | apply IsS79.set_1 | refine IsS79.far ?_ NB0_550.out _ | refine IsS79.far ?_ NB0_558.out _) | exact HI0.out)) : p := h
theorem qz20_ {p : Prop} (h : p := by repeat (first | (with_reducible first | exact HK.out | apply KeepBut.set_ | apply keep_drewN | apply keep_drew | apply keep_alloc | refine keep_far ?_ GW550.out _ | refine keep_far ?_ GW558.out _) | exact HK.out)) : p := h
theorem qz48_ {p : Prop} (h : p := by repeat (first | (with_reducible first | exact HB.out | apply below_alloc | apply pw_below_drewN | apply below_drew1 | refine below_set ?_ (IsS79.ge HI0.out) | refine below_set ?_ GE550.out | refine below_set ?_ GE558.out) | exact HB.out)) : p := h
set_option maxHeartbeats 8000000 in
set_option maxRecDepth 100000 in
theorem spec_l20Paid.calls (k : Nat) (g : Nat) (s0_0 : List Int) (s0_1 : Int) (r1 : List Int) (r2 : List (List Int)) (r3 : List (S36)) (r4 : Int) (w0 w : World) (hI : IsS79 w0 w g s0_0 s0_1) (hB : Below w0.heap.size w0 w) (h : spec_l20Paid.f k s0_0 s0_1 = some (r1, r2, r3, r4)) :
  Calls Try.prog 73 #[.pointer (some ⟨g, 0, none⟩)] w fun e w' => ∃ v0_ v1_ v2_ : Value, e = .returned (.tuple #[.agg #[v0_, v1_], v2_]) ∧ Kd.R (Kd.int .i64) 3 w' w.heap.size (fun k_ => (w.heap.size ≤ k_)) v0_ r1 ∧ Kd.V (Kd.slice 3 (Kd.int .i64)) 23 w' w.heap.size (fun k_ => (w.heap.size ≤ k_) ∧ some k_ ≠ (v0_ : Value).ownBlock ∧ some k_ ≠ (v2_ : Value).ownBlock) v1_ r2 ∧ Kd.R k36 36 w' w.heap.size (fun k_ => (w.heap.size ≤ k_)) v2_ r3 ∧ IsS79 w0 w' g s0_0 r4 ∧ Below w0.heap.size w0 w' ∧ KeepBut w w' g none := by
 have hu26 := Try.underlying26
 have HI0 := Aside0.mk hI
 have HK := Aside0.mk (KeepBut.refl w g none)
 have HL := Aside0.mk hB.size
 clear hI
 have HW0 := Aside0.mk hB.size
 have HB := Aside0.mk hB
 clear hB
 have H : ((spec_l20Book.f k s0_0 s0_1 20).bind fun bt551 => ((spec_l20Pays.f k s0_0 bt551.2.2 bt551.1 bt551.2.1 14).bind fun bt559 => (some (bt551.1, bt551.2.1, bt559.1, bt559.2)))) = some (r1, r2, r3, r4) := h
 clear h
 replace H := Option.bind_eq_some_iff.mp H
 obtain ⟨⟨t551, t554, t557⟩, A20, H⟩ := H
 replace H : ((spec_l20Pays.f k s0_0 t557 t551 t554 14).bind fun bt559 => (some (t551, t554, bt559.1, bt559.2))) = some (r1, r2, r3, r4) := H
 have A2 := Aside0.mk A20
 clear A20
 replace H := Option.bind_eq_some_iff.mp H
 obtain ⟨⟨t559, t562⟩, A30, H⟩ := H
 replace H : (some (t551, t554, t559, t562)) = some (r1, r2, r3, r4) := H
 have A3 := Aside0.mk A30
 clear A30
 simp only [Option.some.injEq, Prod.mk.injEq] at H
 obtain ⟨rfl, rfl, rfl, rfl⟩ := H
 go_enter Try.func73, Try.ntmps73
 try go_wp2_with (first | ((with_reducible refine gate_dst (N := 2) rfl ?_); refine bx_ (N := 2) #[.slice none 0 0, .slice none 0 0] 26 ?_; intro gb550 hg w4 hbox hb; replace HB := Aside0.mk (below_step (qz48_) hb); have BK550 := Aside0.mk (hbox); have GW550 := Aside0.mk ((g100_ : w.heap.size ≤ gb550)); have GE550 := Aside0.mk ((Nat.le_trans HW0.out (g100_ : w.heap.size ≤ gb550) : w0.heap.size ≤ gb550)); replace HK := Aside0.mk (KeepBut.trans (qz20_) (KeepBut.of_below hb g none) (.inl rfl)); have NB0_550 := Aside0.mk ((by rw [hg]; exact Nat.ne_of_lt (IsS79.lt (show IsS79 w0 _ g s0_0 s0_1 from qz47_)) : g ≠ gb550)); have NB550_0 := Aside0.mk ((by rw [hg]; exact Nat.ne_of_gt (IsS79.lt (show IsS79 w0 _ g s0_0 s0_1 from qz47_)) : gb550 ≠ g)); replace HI0 := Aside0.mk (IsS79.below (qz47_) hb); clear hb hbox hg) | ((with_reducible refine gate_callee (f := 52) rfl ?_); refine goesL_ (some 6) rfl rfl Try.func52 k_ rfl #[.pointer (some ⟨g, 0, none⟩), .int .i64 20] rfl (g2_) ?_; (with_reducible refine (spec_l20Book.calls k g s0_0 s0_1 20 t551 t554 t557 w0 _ ?side1 ?side2 A2.out).mono ?_); (case side1 => exact qz47_); (case side2 => exact qz48_); rintro e w5 ⟨v552, v555, rfl, ho0, ho1, hi, hb, hk⟩; refine ⟨_, rfl, ?_⟩; have HO553 := Aside0.mk (Kd.R_lower (Kd.R_newM (M := fun k_ => (w.heap.size ≤ k_)) (Kd.R_mono (ok' := fun k_ => True) ho0 (fun _ hk_ => trivial)) (keep_size (w := w) (g := g) (row := none) (qz20_)) (fun k_ h_ => h_)) (keep_size (w := w) (g := g) (row := none) (qz20_))); have HO556 := Aside0.mk (Kd.V_lower (Kd.V_mono (ok' := fun k_ => (w.heap.size ≤ k_) ∧ some k_ ≠ (v552 : Value).ownBlock ∧ k_ ≠ gb550 ∧ k_ ≠ g) ho1 (fun k_ hk_ => ⟨(Nat.le_trans (keep_size (w := w) (g := g) (row := none) (qz20_)) hk_.1), hk_.2, (Kd.freshB (g := gb550) (o := .cells #[.slice none 0 0, .slice none 0 0] 26 (0, 0)) (uf0_ BK550) k_ hk_.1), (IsS79.fresh (qz47_) k_ hk_.1)⟩)) (keep_size (w := w) (g := g) (row := none) (qz20_))); replace BK550 := Aside0.mk (KeepBut.blk hk (g' := gb550) (o := .cells #[.slice none 0 0, .slice none 0 0] 26 (0, 0)) (uf0_ BK550) NB550_0.out (by simp)); replace HK := Aside0.mk (KeepBut.trans (qz20_) hk (.inl rfl)); replace HB := Aside0.mk (hb); replace HI0 := Aside0.mk (hi); (try clear hb); (try clear hk hi); (try clear ho0); (try clear ho1)) | ((with_reducible refine gate_dst (N := 4) rfl ?_); refine bx_ (N := 4) #[.slice none 0 0, .slice none 0 0] 26 ?_; intro gb558 hg w6 hbox hb; replace HO553 := Aside0.mk (Kd.R_below (uf1_ HO553) hb); replace HO556 := Aside0.mk (Kd.V_below (Kd.V_elderB (uf5_ HO556) gb558 (Nat.le_of_eq hg.symm)) hb); replace HB := Aside0.mk (below_step (qz48_) hb); have BK558 := Aside0.mk (hbox); have GW558 := Aside0.mk ((g100_ : w.heap.size ≤ gb558)); have GE558 := Aside0.mk ((Nat.le_trans HW0.out (g100_ : w.heap.size ≤ gb558) : w0.heap.size ≤ gb558)); replace HK := Aside0.mk (KeepBut.trans (qz20_) (KeepBut.of_below hb g none) (.inl rfl)); have NB550_558 := Aside0.mk ((by rw [hg]; exact Nat.ne_of_lt (blk_lt (g := gb550) (o := .cells #[.slice none 0 0, .slice none 0 0] 26 (0, 0)) (uf0_ BK550)) : gb550 ≠ gb558)); have NB558_550 := Aside0.mk ((by rw [hg]; exact Nat.ne_of_gt (blk_lt (g := gb550) (o := .cells #[.slice none 0 0, .slice none 0 0] 26 (0, 0)) (uf0_ BK550)) : gb558 ≠ gb550)); replace BK550 := bb_ BK550 hb; have NB0_558 := Aside0.mk ((by rw [hg]; exact Nat.ne_of_lt (IsS79.lt (show IsS79 w0 _ g s0_0 t557 from qz47_)) : g ≠ gb558)); have NB558_0 := Aside0.mk ((by rw [hg]; exact Nat.ne_of_gt (IsS79.lt (show IsS79 w0 _ g s0_0 t557 from qz47_)) : gb558 ≠ g)); replace HI0 := Aside0.mk (IsS79.below (qz47_) hb); clear hb hbox hg; obtain ⟨Ao7, co7, eo7⟩ := Kd.R_slice HO553.out; subst eo7; have hnb8 := NB558_550.out; have hnc8 := NB550_558.out; have hnb9 := NB558_0.out; have hnc9 := NB0_558.out; obtain ⟨hcz10_0, hcz10_1, hfz10_0, hfz10_1⟩ := blk2_ BK558; obtain ⟨Ao11, co11, eo11⟩ := Kd.V_slice HO556.out; subst eo11))
 have n0_ : Aside0 (Kd.R (Kd.int .i64) 3 ((w6.setCell ⟨gb558, 0, none⟩ (.slice Ao7 t551.length co7)).setCell ⟨gb558, 1, none⟩ (.slice Ao11 t554.length co11)) w.heap.size (fun k_ => (w.heap.size ≤ k_)) (.slice Ao7 t551.length co7) t551) := ⟨by (with_reducible repeat (first | apply Kd.R_alloc | apply Kd.R_drewN | apply Kd.R_drew)); exact Kd.R_mono (Kd.R_far (p := ⟨gb558, 1, none⟩) (Kd.R_far (p := ⟨gb558, 0, none⟩) (Kd.R_types HO553.out BK558.out (by decide)) (fun _ hk => hk.2) (.slice Ao7 t551.length co7)) (fun _ hk => hk.2) (.slice Ao11 t554.length co11)) (fun _ hk => hk.1.1)⟩
 have n1_ : Aside0 (Kd.V (Kd.slice 3 (Kd.int .i64)) 23 ((w6.setCell ⟨gb558, 0, none⟩ (.slice Ao7 t551.length co7)).setCell ⟨gb558, 1, none⟩ (.slice Ao11 t554.length co11)) w.heap.size (fun k_ => (w.heap.size ≤ k_) ∧ some k_ ≠ (.slice Ao7 t551.length co7 : Value).ownBlock ∧ k_ ≠ gb550 ∧ k_ ≠ g ∧ k_ ≠ gb558) (.slice Ao11 t554.length co11) t554) := ⟨by (with_reducible repeat (first | apply Kd.V_alloc | apply Kd.V_drewN | apply Kd.V_drew)); exact Kd.V_mono (Kd.V_far (p := ⟨gb558, 1, none⟩) (Kd.V_far (p := ⟨gb558, 0, none⟩) (Kd.V_mono HO556.out (fun k_ hk => (⟨hk, hk.2⟩ : _ ∧ k_ ≠ gb558))) (fun _ hk => hk.2) (.slice Ao7 t551.length co7)) (fun _ hk => hk.2) (.slice Ao11 t554.length co11)) (fun _ hk => ⟨hk.1.1.1, ⟨hk.1.1.2.1, ⟨hk.1.1.2.2.1, ⟨hk.1.1.2.2.2, hk.1.2⟩⟩⟩⟩)⟩
 have n2_ : Aside0 (((w6.setCell ⟨gb558, 0, none⟩ (.slice Ao7 t551.length co7)).setCell ⟨gb558, 1, none⟩ (.slice Ao11 t554.length co11)).heap[gb550]? = some (.cells #[.slice none 0 0, .slice none 0 0] 26 (0, 0))) := ⟨by (with_reducible repeat (first | refine blk_drewN ?_ _ | refine blk_drew ?_ | refine blk_alloc ?_ _)); refine blk_far ?_ NB550_558.out _; (with_reducible repeat (first | refine blk_drewN ?_ _ | refine blk_drew ?_ | refine blk_alloc ?_ _)); refine blk_far ?_ NB550_558.out _; (with_reducible repeat (first | refine blk_drewN ?_ _ | refine blk_drew ?_ | refine blk_alloc ?_ _)); exact BK550.out⟩
 have n3_ : Aside0 (((w6.setCell ⟨gb558, 0, none⟩ (.slice Ao7 t551.length co7)).setCell ⟨gb558, 1, none⟩ (.slice Ao11 t554.length co11)).heap[gb558]? = some (.cells #[.slice Ao7 t551.length co7, .slice Ao11 t554.length co11] 26 (0, 0))) := ⟨by (with_reducible repeat (first | refine blk_drewN ?_ _ | refine blk_drew ?_ | refine blk_alloc ?_ _)); refine blk_put (cs := #[.slice Ao7 t551.length co7, .slice none 0 0]) ?_ 1 _ rfl; (with_reducible repeat (first | refine blk_drewN ?_ _ | refine blk_drew ?_ | refine blk_alloc ?_ _)); refine blk_put (cs := #[.slice none 0 0, .slice none 0 0]) ?_ 0 _ rfl; (with_reducible repeat (first | refine blk_drewN ?_ _ | refine blk_drew ?_ | refine blk_alloc ?_ _)); exact BK558.out⟩
 have n4_ : Aside0 (IsS79 w0 ((w6.setCell ⟨gb558, 0, none⟩ (.slice Ao7 t551.length co7)).setCell ⟨gb558, 1, none⟩ (.slice Ao11 t554.length co11)) g s0_0 t557) := ⟨qz47_⟩
 have n5_ : Aside0 (KeepBut w ((w6.setCell ⟨gb558, 0, none⟩ (.slice Ao7 t551.length co7)).setCell ⟨gb558, 1, none⟩ (.slice Ao11 t554.length co11)) g none) := ⟨qz20_⟩
 have n6_ : Aside0 (Below w0.heap.size w0 ((w6.setCell ⟨gb558, 0, none⟩ (.slice Ao7 t551.length co7)).setCell ⟨gb558, 1, none⟩ (.slice Ao11 t554.length co11))) := ⟨qz48_⟩
 (try clear HO553)
 (try clear HO556)
 (try clear BK550)
 (try clear BK558)
 (try clear HI0)
 (try clear HK)
 (try clear HB)
 generalize ((w6.setCell ⟨gb558, 0, none⟩ (.slice Ao7 t551.length co7)).setCell ⟨gb558, 1, none⟩ (.slice Ao11 t554.length co11)) = w12 at n0_ n1_ n2_ n3_ n4_ n5_ n6_ ⊢
 have HO553 := n0_
 have HO556 := n1_
 have BK550 := n2_
 have BK558 := n3_
 have HI0 := n4_
 have HK := n5_
 have HB := n6_
 clear n0_ n1_ n2_ n3_ n4_ n5_ n6_
 replace HO553 := Aside0.mk (Kd.R_drew HO553.out)
 replace HO556 := Aside0.mk (Kd.V_drew HO556.out)
 replace BK550 := Aside0.mk (blk_drew BK550.out)
 replace BK558 := Aside0.mk (blk_drew BK558.out)
 replace HI0 := Aside0.mk (IsS79.drew HI0.out)
 replace HK := Aside0.mk (keep_drew HK.out)
 replace HB := Aside0.mk (below_drew1 HB.out)
 refine start_ (n := 6) (S := fun w' => w'.cell? ⟨gb558, 0, none⟩ = some (.slice Ao7 t551.length co7) ∧ w'.cell? ⟨gb558, 1, none⟩ = some (.slice Ao11 t554.length co11)) (ds := []) (tl_ 6 0) (g0_) rfl (g0_) ⟨(blk_cell BK558.out 0).trans rfl, (blk_cell BK558.out 1).trans rfl⟩ (fun hHeld => ?_)
 generalize w12.drew = w13 at HO553 HO556 BK550 BK558 HI0 HK HB hHeld ⊢
 refine pure_ (i := 1) (N := some 8) (v := ?_) (a' := ?_) (tl_ 6 2) rfl rfl (g0_) (fun _ _ _ h => h) (Or.inl ⟨by rfl, ?_⟩) ?_ ?_
 rotate_left
 ·intro w'
  go_simp
  with_reducible rfl
 rotate_left
 ·simp only [Act.put, List.setIfInBounds_toArray, List.set_cons_zero, List.set_cons_succ, i64_w, i32_w]
  rfl
 refine take_ (i := 0) (N := some 7) (v := ?_) (a' := ?_) (tl_ 6 3) rfl rfl (g0_) (fun _ _ _ h => h) (Or.inl ⟨by rfl, ?_⟩) hHeld ?_ ?_
 rotate_left
 ·rintro w' ⟨s0, s1⟩
  go_simp
  with_reducible rfl
 rotate_left
 ·simp only [Act.put, List.setIfInBounds_toArray, List.set_cons_zero, List.set_cons_succ, i64_w, i32_w]
  rfl
 refine take_ (i := 2) (N := some 9) (v := ?_) (a' := ?_) (tl_ 6 7) rfl rfl (g0_) (fun _ _ _ h => h) (Or.inl ⟨by rfl, ?_⟩) hHeld ?_ ?_
 rotate_left
 ·rintro w' ⟨s0, s1⟩
  go_simp
  with_reducible rfl
 rotate_left
 ·simp only [Act.put, List.setIfInBounds_toArray, List.set_cons_zero, List.set_cons_succ, i64_w, i32_w]
  rfl
 refine one_ (i := 3) (N := some 10) (tl_ 6 15) rfl rfl (g0_) (by decide) (fun K hK => ?_)
 refine goes_ Try.func71 (g0_) rfl #[.pointer (some ⟨g, 0, none⟩), .agg #[.slice Ao7 t551.length co7, .slice Ao11 t554.length co11], .int .i64 14] (by rfl) rfl rfl (g2_) ?_
 with_reducible refine (spec_l20Pays.calls k g s0_0 t557 _ _ t551 _ _ t554 14 t559 t562 w0 _ ?side1 ?side2 ?side3 ?side4 ?side5 ?side6 ?side7 A3.out).mono ?_
 (case side1 => exact qz47_)
 (case side2 => exact qz48_)
 (case side3 => repeat (first | exact (Kd.R_reads' HO553.out).2.2 | (with_reducible refine Kd.C_alloc ?_ _) | (with_reducible refine Kd.C_drewN ?_ _) | (with_reducible refine Kd.C_drew ?_)))
 (case side4 => exact (Kd.R_reads' HO553.out).2.1)
 (case side5 => exact far_slice (IsS79.own_ne HI0.out HO553.out (by decide)))
 (case side6 => exact Kd.C_foot_ownV (e := 0) (base := 0) (Kd.V_mono (ok := fun k_ => (((w.heap.size ≤ k_)) ∧ (some k_ ≠ (.slice Ao7 t551.length co7 : Value).ownBlock ∧ (k_ ≠ gb550 ∧ (k_ ≠ g ∧ k_ ≠ gb558))))) (uf5_ HO556) (fun k_ hk_ => (⟨hk_, hk_.2.2.2.1⟩ : _ ∧ k_ ≠ g))) (fun _ h_ => h_.2))
 (case side7 => exact (Kd.V_reads' HO556.out).2.1)
 rintro e w14 ⟨v560, rfl, ho0, hi, hb, hk⟩
 refine ⟨_, rfl, ?_⟩
 replace BK550 := Aside0.mk (KeepBut.blk hk (g' := gb550) (o := .cells #[.slice none 0 0, .slice none 0 0] 26 (0, 0)) (uf0_ BK550) NB550_0.out (by simp))
 replace HO553 := Aside0.mk (Kd.R_mono (Kd.R_keep (IsS79.apart (show IsS79 w0 _ g s0_0 t557 from qz47_) (uf1_ HO553) (by decide)) hk (fun _ h => h.2)) (fun _ h => h.1))
 replace HO556 := Aside0.mk (Kd.V_mono (Kd.V_told (Kd.V_oldK (Kd.V_mono (ok := fun k_ => (((w.heap.size ≤ k_)) ∧ (some k_ ≠ (.slice Ao7 t551.length co7 : Value).ownBlock ∧ (k_ ≠ gb550 ∧ (k_ ≠ g ∧ k_ ≠ gb558))))) (uf5_ HO556) (fun k_ hk_ => (⟨hk_, hk_.2.2.2.1⟩ : _ ∧ k_ ≠ g))) hk) (Kd.R_base ho0)) (fun _ h_ => h_.1))
 replace BK558 := Aside0.mk (KeepBut.blk hk (g' := gb558) (o := .cells #[.slice Ao7 t551.length co7, .slice Ao11 t554.length co11] 26 (0, 0)) (uf0_ BK558) NB558_0.out (by simp))
 have HO561 := Aside0.mk (Kd.R_lower (Kd.R_newM (M := fun k_ => (w.heap.size ≤ k_)) ho0 (keep_size (w := w) (g := g) (row := none) (qz20_)) (fun k_ h_ => h_)) (keep_size (w := w) (g := g) (row := none) (qz20_)))
 replace HK := Aside0.mk (KeepBut.trans (qz20_) hk (.inl rfl))
 replace HB := Aside0.mk (hb)
 replace HI0 := Aside0.mk (hi)
 (try clear hb)
 (try clear hk hi)
 (try clear ho0)
 refine hK.out _ _ ⟨(blk_cell BK558.out 0).trans rfl, (blk_cell BK558.out 1).trans rfl⟩ (fun hHeld => ?_)
 clear hK K
 refine nm_ ?_
 refine one_ (i := 4) (N := none) (tl_ 6 31) rfl rfl (g0_) (by decide) (fun K hK => ?_)
 have hs15 : w14.cell? ⟨gb550, 0, none⟩ = some (.slice none 0 0) := (blk_cell BK550.out 0).trans rfl
 have hfs15 := blk_frozen BK550.out 0
 have hns15_1 := NB558_550.out
 have hms15_1 := NB550_558.out
 have hs16 : w14.cell? ⟨gb550, 1, none⟩ = some (.slice none 0 0) := (blk_cell BK550.out 1).trans rfl
 have hfs16 := blk_frozen BK550.out 1
 have hns16_1 := NB558_550.out
 have hms16_1 := NB550_558.out
 refine skip_ (w1 := ?_) (by rfl) rfl ?_ ?_
 rotate_left
 ·go_simp
  rfl
 refine hK.out _ _ ⟨(cf_ NB558_550 ((cf_ NB558_550 (hHeld.1)))), (cf_ NB558_550 ((cf_ NB558_550 (hHeld.2))))⟩ (fun hHeld => ?_)
 clear hK K
 refine pure_ (i := 5) (N := some 3) (v := ?_) (a' := ?_) (tl_ 6 63) rfl rfl (g0_) (fun _ _ _ h => h) (Or.inl ⟨by rfl, ?_⟩) ?_ ?_
 rotate_left
 ·intro w'
  go_simp
  with_reducible rfl
 rotate_left
 ·simp only [Act.put, List.setIfInBounds_toArray, List.set_cons_zero, List.set_cons_succ, i64_w, i32_w]
  rfl
 refine done_ (g0_) ?_
 try go_wp2
 refine bodyPost_ret (results_ct rfl _ _ gb550 26 #[.slice Ao7 t551.length co7, .slice Ao11 t554.length co11] (0, 0) _ rfl (by (with_reducible repeat (first | refine blk_drewN ?_ _ | refine blk_drew ?_ | refine blk_alloc ?_ _)); refine blk_put (cs := #[.slice Ao7 t551.length co7, .slice none 0 0]) ?_ 1 _ rfl; (with_reducible repeat (first | refine blk_drewN ?_ _ | refine blk_drew ?_ | refine blk_alloc ?_ _)); refine blk_put (cs := #[.slice none 0 0, .slice none 0 0]) ?_ 0 _ rfl; (with_reducible repeat (first | refine blk_drewN ?_ _ | refine blk_drew ?_ | refine blk_alloc ?_ _)); exact BK550.out) Try.underlying26 rfl (g0_)) rfl ?_
 exact ⟨_, _, _, g4_, by (with_reducible repeat (first | apply Kd.R_alloc | apply Kd.R_drewN | apply Kd.R_drew)); exact Kd.R_mono (Kd.R_far (p := ⟨gb550, 1, none⟩) (Kd.R_far (p := ⟨gb550, 0, none⟩) (Kd.R_types HO553.out BK550.out (by decide)) (fun _ hk => hk.2) (.slice Ao7 t551.length co7)) (fun _ hk => hk.2) (.slice Ao11 t554.length co11)) (fun _ hk => hk.1), by (with_reducible repeat (first | apply Kd.V_alloc | apply Kd.V_drewN | apply Kd.V_drew)); exact Kd.V_mono (Kd.V_far (p := ⟨gb550, 1, none⟩) (Kd.V_far (p := ⟨gb550, 0, none⟩) (Kd.V_mono HO556.out (fun k_ hk => (⟨hk, hk.1.2.2.1⟩ : _ ∧ k_ ≠ gb550))) (fun _ hk => hk.2) (.slice Ao7 t551.length co7)) (fun _ hk => hk.2) (.slice Ao11 t554.length co11)) (fun _ hk => ⟨hk.1.1.1, ⟨hk.1.1.2.1, hk.1.2⟩⟩), by (with_reducible repeat (first | apply Kd.R_alloc | apply Kd.R_drewN | apply Kd.R_drew)); exact Kd.R_mono (Kd.R_far (p := ⟨gb550, 1, none⟩) (Kd.R_far (p := ⟨gb550, 0, none⟩) (Kd.R_types HO561.out BK550.out (by decide)) (fun _ hk => hk.2) (.slice Ao7 t551.length co7)) (fun _ hk => hk.2) (.slice Ao11 t554.length co11)) (fun _ hk => hk.1.1), qz47_, qz48_, qz20_⟩
def spec_DrawLeadsTo.f (k : Nat) (l0 : List Int) : Option (List Int × (List (List Int)) × (List (S36))) := (spec_l20Open.f l0).bind fun bt934 => ((spec_l20Paid.f k bt934.1 bt934.2).bind fun bt937 => (some (bt937.1, bt937.2.1, bt937.2.2.1)))
theorem spec_DrawLeadsTo.mq {p : Prop} (h : p := by
 repeat' first
 | (with_reducible exact spec_l20Paid.mono _ _ _)
 | (with_reducible exact LeO.refl _)
 | (with_reducible exact LeO.none _)
 | (with_reducible refine LeO.ite ?_ ?_)
 | (with_reducible refine LeO.bind ?_ (fun _ => ?_))
 | exact spec_l20Paid.mono _ _ _
 | exact LeO.none _
 | refine LeO.ite ?_ ?_
 | refine LeO.bind ?_ (fun _ => ?_)) : p := h
theorem spec_DrawLeadsTo.mono : ∀ a0 k, LeO (spec_DrawLeadsTo.f k a0) (spec_DrawLeadsTo.f (k + 1) a0) := by
 intro a0 k
 unfold spec_DrawLeadsTo.f
 exact spec_DrawLeadsTo.mq
theorem qz49_ {p : Prop} (h : p := by repeat (first | (with_reducible first | exact HB.out | apply below_alloc | apply pw_below_drewN | apply below_drew1 | refine below_set ?_ GE933.out | refine below_set ?_ (IsS79.ge HI936.out)) | exact HB.out)) : p := h
theorem qz50_ {p : Prop} (h : p := by repeat (first | (with_reducible first | exact HI936.out | apply IsS79.alloc | apply IsS79.drewN | apply IsS79.drew | apply IsS79.set_1 | refine IsS79.far ?_ NB936_933.out _) | exact HI936.out)) : p := h
set_option maxHeartbeats 8000000 in
set_option maxRecDepth 100000 in
theorem spec_DrawLeadsTo.calls (k : Nat) (A0 : Option Addr) (c0 : Nat) (l0 : List Int) (r1 : List Int) (r2 : List (List Int)) (r3 : List (S36)) (w : World) (hr0 : Kd.C (Kd.int .u8) w A0 l0.length l0) (hc0 : l0.length ≤ c0) (h : spec_DrawLeadsTo.f k l0 = some (r1, r2, r3)) :
  Calls Try.prog 45 #[.slice A0 l0.length c0] w fun e w' => ∃ v0_ v1_ v2_ : Value, e = .returned (.tuple #[.agg #[v0_, v1_], v2_]) ∧ Kd.R (Kd.int .i64) 3 w' w.heap.size (fun k_ => (w.heap.size ≤ k_)) v0_ r1 ∧ Kd.V (Kd.slice 3 (Kd.int .i64)) 23 w' w.heap.size (fun k_ => (w.heap.size ≤ k_) ∧ some k_ ≠ (v0_ : Value).ownBlock ∧ some k_ ≠ (v2_ : Value).ownBlock) v1_ r2 ∧ Kd.R k36 36 w' w.heap.size (fun k_ => (w.heap.size ≤ k_)) v2_ r3 ∧ Below w.heap.size w w' := by
 have hu26 := Try.underlying26
 have HR0 := Aside0.mk hr0
 have HC0 := Aside0.mk hc0
 clear hr0 hc0
 have HB := Aside0.mk (Below.refl w.heap.size w)
 have H : ((spec_l20Open.f l0).bind fun bt934 => ((spec_l20Paid.f k bt934.1 bt934.2).bind fun bt937 => (some (bt937.1, bt937.2.1, bt937.2.2.1)))) = some (r1, r2, r3) := h
 clear h
 replace H := Option.bind_eq_some_iff.mp H
 obtain ⟨⟨t934, t935⟩, A20, H⟩ := H
 replace H : ((spec_l20Paid.f k t934 t935).bind fun bt937 => (some (bt937.1, bt937.2.1, bt937.2.2.1))) = some (r1, r2, r3) := H
 have A2 := Aside0.mk A20
 clear A20
 replace H := Option.bind_eq_some_iff.mp H
 obtain ⟨⟨t937, t940, t943, t946⟩, A30, H⟩ := H
 replace H : (some (t937, t940, t943)) = some (r1, r2, r3) := H
 have A3 := Aside0.mk A30
 clear A30
 simp only [Option.some.injEq, Prod.mk.injEq] at H
 obtain ⟨rfl, rfl, rfl⟩ := H
 go_enter Try.func45, Try.ntmps45
 go_wp2_with (first | ((with_reducible refine gate_dst (N := 2) rfl ?_); refine bx_ (N := 2) #[.slice none 0 0, .slice none 0 0] 26 ?_; intro gb933 hg w4 hbox hb; have BK933 := Aside0.mk (hbox); have GW933 := Aside0.mk ((by rw [hg]; exact (below_size (qz49_)) : w.heap.size ≤ gb933)); have GE933 := Aside0.mk ((by rw [hg]; exact (below_size (qz49_)) : w.heap.size ≤ gb933)); replace HB := Aside0.mk (below_step (qz49_) hb); clear hb hbox hg) | ((with_reducible refine gate_callee (f := 53) rfl ?_); refine goesL_ (some 5) rfl rfl Try.func53 k_ rfl #[.slice A0 l0.length c0] rfl (g2_) ?_; (with_reducible refine (spec_l20Open.calls _ _ l0 t934 t935 w _ ?side1 ?side2 ?side3 A2.out).mono ?_); (case side1 => exact qz49_); (case side2 => exact HR0.out); (case side3 => exact HC0.out); rintro e w5 ⟨g936, rfl, hi, hb, hb2⟩; refine ⟨_, rfl, ?_⟩; replace HB := Aside0.mk (hb); have HI936 := Aside0.mk (hi); have NB936_933 := Aside0.mk (IsS79.ne_blk hi (blk_below (g := gb933) (o := .cells #[.slice none 0 0, .slice none 0 0] 26 (0, 0)) (uf0_ BK933) hb2) (by decide)); have NB933_936 := Aside0.mk (Ne.symm (IsS79.ne_blk hi (blk_below (g := gb933) (o := .cells #[.slice none 0 0, .slice none 0 0] 26 (0, 0)) (uf0_ BK933) hb2) (by decide))); replace BK933 := Aside0.mk (blk_below (g := gb933) (o := .cells #[.slice none 0 0, .slice none 0 0] 26 (0, 0)) (uf0_ BK933) hb2); (try clear hb); (try clear hb2); (try clear hk); (try clear hi)) | ((with_reducible refine gate_callee (f := 73) rfl ?_); refine goesL_ (some 6) rfl rfl Try.func73 k_ rfl #[.pointer (some ⟨g936, 0, none⟩)] rfl (g2_) ?_; (with_reducible refine (spec_l20Paid.calls k g936 t934 t935 t937 t940 t943 t946 w _ ?side1 ?side2 A3.out).mono ?_); (case side1 => exact qz50_); (case side2 => exact qz49_); rintro e w6 ⟨v938, v941, v944, rfl, ho0, ho1, ho2, hi, hb, hk⟩; refine ⟨_, rfl, ?_⟩; have HO939 := Aside0.mk (Kd.R_lower (Kd.R_newM (M := fun k_ => (w.heap.size ≤ k_)) (Kd.R_mono (ok' := fun k_ => True) ho0 (fun _ hk_ => trivial)) (below_size (qz49_)) (fun k_ h_ => h_)) (below_size (qz49_))); have HO942 := Aside0.mk (Kd.V_lower (Kd.V_mono (ok' := fun k_ => (w.heap.size ≤ k_) ∧ some k_ ≠ (v938 : Value).ownBlock ∧ some k_ ≠ (v944 : Value).ownBlock ∧ k_ ≠ gb933 ∧ k_ ≠ g936) ho1 (fun k_ hk_ => ⟨(Nat.le_trans (below_size (qz49_)) hk_.1), hk_.2.1, hk_.2.2, (Kd.freshB (g := gb933) (o := .cells #[.slice none 0 0, .slice none 0 0] 26 (0, 0)) (uf0_ BK933) k_ hk_.1), (IsS79.fresh (qz50_) k_ hk_.1)⟩)) (below_size (qz49_))); replace BK933 := Aside0.mk (KeepBut.blk hk (g' := gb933) (o := .cells #[.slice none 0 0, .slice none 0 0] 26 (0, 0)) (uf0_ BK933) NB933_936.out (by simp)); have HO945 := Aside0.mk (Kd.R_lower (Kd.R_newM (M := fun k_ => (w.heap.size ≤ k_)) (Kd.R_mono (ok' := fun k_ => True) ho2 (fun _ hk_ => trivial)) (below_size (qz49_)) (fun k_ h_ => h_)) (below_size (qz49_))); replace HB := Aside0.mk (hb); replace HI936 := Aside0.mk (hi); (try clear hb); (try clear hb2); (try clear hk); (try clear hi); (try clear ho0); (try clear ho1); (try clear ho2); obtain ⟨Ao7, co7, eo7⟩ := Kd.R_slice HO939.out; subst eo7; have hnb8 := NB933_936.out; have hnc8 := NB936_933.out; obtain ⟨hcz9_0, hcz9_1, hfz9_0, hfz9_1⟩ := blk2_ BK933; obtain ⟨Ao10, co10, eo10⟩ := Kd.V_slice HO942.out; subst eo10))
 refine bodyPost_ret (results_ct rfl _ _ gb933 26 #[.slice Ao7 t937.length co7, .slice Ao10 t940.length co10] (0, 0) _ rfl (by (with_reducible repeat (first | refine blk_drewN ?_ _ | refine blk_drew ?_ | refine blk_alloc ?_ _)); refine blk_put (cs := #[.slice Ao7 t937.length co7, .slice none 0 0]) ?_ 1 _ rfl; (with_reducible repeat (first | refine blk_drewN ?_ _ | refine blk_drew ?_ | refine blk_alloc ?_ _)); refine blk_put (cs := #[.slice none 0 0, .slice none 0 0]) ?_ 0 _ rfl; (with_reducible repeat (first | refine blk_drewN ?_ _ | refine blk_drew ?_ | refine blk_alloc ?_ _)); exact BK933.out) Try.underlying26 rfl (g0_)) rfl ?_
 exact ⟨_, _, _, g4_, by (with_reducible repeat (first | apply Kd.R_alloc | apply Kd.R_drewN | apply Kd.R_drew)); exact Kd.R_mono (Kd.R_far (p := ⟨gb933, 1, none⟩) (Kd.R_far (p := ⟨gb933, 0, none⟩) (Kd.R_types HO939.out BK933.out (by decide)) (fun _ hk => hk.2) (.slice Ao7 t937.length co7)) (fun _ hk => hk.2) (.slice Ao10 t940.length co10)) (fun _ hk => hk.1.1), by (with_reducible repeat (first | apply Kd.V_alloc | apply Kd.V_drewN | apply Kd.V_drew)); exact Kd.V_mono (Kd.V_far (p := ⟨gb933, 1, none⟩) (Kd.V_far (p := ⟨gb933, 0, none⟩) (Kd.V_mono HO942.out (fun k_ hk => (⟨hk, hk.2.2.2.1⟩ : _ ∧ k_ ≠ gb933))) (fun _ hk => hk.2) (.slice Ao7 t937.length co7)) (fun _ hk => hk.2) (.slice Ao10 t940.length co10)) (fun _ hk => ⟨hk.1.1, ⟨hk.1.2.1, hk.1.2.2.1⟩⟩), by (with_reducible repeat (first | apply Kd.R_alloc | apply Kd.R_drewN | apply Kd.R_drew)); exact Kd.R_mono (Kd.R_far (p := ⟨gb933, 1, none⟩) (Kd.R_far (p := ⟨gb933, 0, none⟩) (Kd.R_types HO945.out BK933.out (by decide)) (fun _ hk => hk.2) (.slice Ao7 t937.length co7)) (fun _ hk => hk.2) (.slice Ao10 t940.length co10)) (fun _ hk => hk.1.1), qz49_⟩
def impl_lowest.f (k : Nat) (a0 : Int) (a1 : Int) : Option (Int × Int × Bool) := (impl_gcd.f k a0 a1).bind fun t248 => (if a1 < 0 then (if (wrap64 (-t248)) = 0 then (none) else ((impl_isFrac.f k (wrap64 (Int.tdiv a0 (wrap64 (-t248)))) (wrap64 (Int.tdiv a1 (wrap64 (-t248))))).bind fun t250 => (if t250 = true then (some (wrap64 (Int.tdiv a0 (wrap64 (-t248))), wrap64 (Int.tdiv a1 (wrap64 (-t248))), true)) else (some (0, 0, false))))) else (if t248 = 0 then (none) else ((impl_isFrac.f k (wrap64 (Int.tdiv a0 t248)) (wrap64 (Int.tdiv a1 t248))).bind fun t252 => (if t252 = true then (some (wrap64 (Int.tdiv a0 t248), wrap64 (Int.tdiv a1 t248), true)) else (some (0, 0, false))))))
theorem impl_lowest.mq {p : Prop} (h : p := by
 repeat' first
 | (with_reducible exact impl_gcd.mono _ _ _)
 | (with_reducible exact impl_isFrac.mono _ _ _)
 | (with_reducible exact LeO.refl _)
 | (with_reducible exact LeO.none _)
 | (with_reducible refine LeO.ite ?_ ?_)
 | (with_reducible refine LeO.bind ?_ (fun _ => ?_))
 | exact impl_gcd.mono _ _ _
 | exact impl_isFrac.mono _ _ _
 | exact LeO.none _
 | refine LeO.ite ?_ ?_
 | refine LeO.bind ?_ (fun _ => ?_)) : p := h
theorem impl_lowest.mono : ∀ a0 a1 k, LeO (impl_lowest.f k a0 a1) (impl_lowest.f (k + 1) a0 a1) := by
 intro a0 a1 k
 unfold impl_lowest.f
 exact impl_lowest.mq
def impl_lowest.T4 : Bool × List (List Nat × List Nat) := (true, [([], []), ([], []), ([0, 1], [0, 1]), ([], []), ([], []), ([3, 4], [3, 4]), ([2, 5], [2, 5]), ([], []), ([7, 6, 0, 1, 2, 3, 4, 5, 6, 7], [6, 7])])
def impl_lowest.B4 : List Nat := [0, 0, 3, 0, 0, 24, 63, 0, 255]
theorem impl_lowest.tab4 : rtab .any (opsOf Try.f92 4) = impl_lowest.T4 := by kernel_rfl
theorem impl_lowest.bits4 : waitsOk impl_lowest.T4.2 impl_lowest.B4 = true := by kernel_rfl
theorem qz4_ {p : Prop} (h : p := by repeat (first | (with_reducible first | exact HB.out | apply below_alloc | apply pw_below_drewN | apply below_drew1 | refine below_set ?_ GE247.out | refine below_set ?_ GE249.out | refine below_set ?_ GE251.out) | exact HB.out)) : p := h
set_option maxHeartbeats 8000000 in
set_option maxRecDepth 100000 in
theorem impl_lowest.calls (k : Nat) (a0 : Int) (a1 : Int) (r1 : Int) (r2 : Int) (r3 : Bool) (w : World) (h : impl_lowest.f k a0 a1 = some (r1, r2, r3)) :
  Calls Try.prog 92 #[.int .i64 a0, .int .i64 a1] w fun e w' => e = .returned (.tuple #[.agg #[.int .i64 r1, .int .i64 r2], .bool r3]) ∧ Below w.heap.size w w' := by
 have hu36 := Try.underlying36
 have HB := Aside0.mk (Below.refl w.heap.size w)
 have H : ((impl_gcd.f k a0 a1).bind fun t248 => (if a1 < 0 then (if (wrap64 (-t248)) = 0 then (none) else ((impl_isFrac.f k (wrap64 (Int.tdiv a0 (wrap64 (-t248)))) (wrap64 (Int.tdiv a1 (wrap64 (-t248))))).bind fun t250 => (if t250 = true then (some (wrap64 (Int.tdiv a0 (wrap64 (-t248))), wrap64 (Int.tdiv a1 (wrap64 (-t248))), true)) else (some (0, 0, false))))) else (if t248 = 0 then (none) else ((impl_isFrac.f k (wrap64 (Int.tdiv a0 t248)) (wrap64 (Int.tdiv a1 t248))).bind fun t252 => (if t252 = true then (some (wrap64 (Int.tdiv a0 t248), wrap64 (Int.tdiv a1 t248), true)) else (some (0, 0, false))))))) = some (r1, r2, r3) := h
 clear h
 obtain ⟨t248, A3, H⟩ := bind_ H
 by_cases c4 : a1 < 0
 ·rw [if_pos c4] at H
  have c4b0 := decide_eq_true c4
  clear c4
  by_cases c5 : (wrap64 (-t248)) = 0
  ·rw [if_pos c5] at H
   exact absurd H (by simp)
  ·rw [if_neg c5] at H
   have c5b0 : ((wrap64 (-t248)) == 0) = false := beq_eq_false_iff_ne.mpr c5
   have c5b1 : ((wrap64 (-t248)) != 0) = true := bne_iff_ne.mpr c5
   obtain ⟨t250, A6, H⟩ := bind_ H
   by_cases c7 : t250 = true
   ·subst c7
    replace H := ifp_ H
    simp only [Option.some.injEq, Prod.mk.injEq] at H
    obtain ⟨rfl, rfl, rfl⟩ := H
    go_enter Try.func92, Try.ntmps92
    try go_wp2_with (first | ((with_reducible refine gate_dst (N := 4) rfl ?_); refine bx_ (N := 4) #[.int .i64 0, .int .i64 0] 36 ?_; intro gb247 hg w8 hbox hb; have BK247 := Aside0.mk (hbox); have GW247 := Aside0.mk ((g18_ : w.heap.size ≤ gb247)); have GE247 := Aside0.mk ((g18_ : w.heap.size ≤ gb247)); replace HB := Aside0.mk (below_step (qz4_) hb); clear hb hbox hg) | ((with_reducible refine gate_callee (f := 97) rfl ?_); refine goesL_ (some 10) rfl rfl Try.func97 k_ rfl #[.int .i64 a0, .int .i64 a1] rfl (g2_) ?_; (with_reducible refine (impl_gcd.calls k a0 a1 t248 _ A3.out).mono ?_); rintro e w9 ⟨rfl, hb⟩; refine ⟨_, rfl, ?_⟩; replace BK247 := bb_ BK247 hb; replace HB := Aside0.mk (below_step (qz4_) hb); (try clear hb); (try clear hk hi)))
    replace BK247 := Aside0.mk (blk_drew BK247.out)
    replace HB := Aside0.mk (below_drew1 HB.out)
    refine start_ (n := 9) (S := fun w' => True) (ds := []) (tl_ 9 0) (g0_) rfl (g0_) trivial (fun hHeld => ?_); refine with_tabW impl_lowest.tab4 impl_lowest.bits4 (fun HT_ HW_ => ?_)
    generalize w9.drew = w10 at BK247 HB hHeld ⊢
    refine pw_ 0 15 (tl_ 9 1) rfl rfl ?_
    refine pw_ 1 16 (tl_ 9 3) rfl rfl ?_
    refine pw_ 2 17 (tl_ 9 7) rfl rfl ?_
    refine pw_ 3 18 (tl_ 9 15) rfl rfl ?_
    refine pw_ 4 19 (tl_ 9 31) rfl rfl ?_
    refine pw_ 5 20 (tl_ 9 63) rfl rfl ?_
    refine pw_ 6 21 (tl_ 9 127) rfl rfl ?_
    refine one_ (i := 7) (N := some 7) (tl_ 9 255) rfl rfl (one_of HT_.out (g0_)) (by decide) (fun K hK => ?_)
    refine bs_ (N := 7) #[.int .i64 0, .int .i64 0] 36 ?_
    intro gb249 hg w11 hbox hb
    have BK249 := Aside0.mk (hbox)
    have GW249 := Aside0.mk ((g18_ : w.heap.size ≤ gb249))
    have GE249 := Aside0.mk ((g18_ : w.heap.size ≤ gb249))
    replace HB := Aside0.mk (below_step (qz4_) hb)
    have NB247_249 := Aside0.mk ((g88_ : gb247 ≠ gb249))
    have NB249_247 := Aside0.mk ((g89_ : gb249 ≠ gb247))
    replace BK247 := bb_ BK247 hb
    clear hb hbox hg
    refine hK.out _ _ trivial (fun hHeld => ?_)
    clear hK K
    refine nm_ ?_
    refine one_ (i := 8) (N := none) (tl_ 9 511) rfl rfl (one_of HT_.out (g0_)) (by decide) (fun K hK => ?_)
    have hs12 : w11.cell? ⟨gb249, 0, none⟩ = some (.int .i64 0) := (blk_cell BK249.out 0).trans rfl
    have hfs12 := blk_frozen BK249.out 0
    have hns12_0 := NB247_249.out
    have hms12_0 := NB249_247.out
    have hs13 : w11.cell? ⟨gb249, 1, none⟩ = some (.int .i64 0) := (blk_cell BK249.out 1).trans rfl
    have hfs13 := blk_frozen BK249.out 1
    have hns13_0 := NB247_249.out
    have hms13_0 := NB249_247.out
    refine skip_ (w1 := ?_) (by rfl) rfl ?_ ?_
    rotate_left
    ·go_simp
     rfl
    refine hK.out _ _ trivial (fun hHeld => ?_)
    clear hK K
    refine done_ (done_of HT_.out (g0_)) ?_
    have hnb14 := NB249_247.out
    have hnc14 := NB247_249.out
    obtain ⟨hcz15_0, hcz15_1, hfz15_0, hfz15_1⟩ := blk2_ BK249
    try go_wp2_with (first | ((with_reducible refine gate_callee (f := 77) rfl ?_); refine goesL_ (some 23) rfl rfl Try.func77 k_ rfl #[.agg #[.int .i64 (wrap64 (Int.tdiv a0 (wrap64 (-t248)))), .int .i64 (wrap64 (Int.tdiv a1 (wrap64 (-t248))))]] rfl (g2_) ?_; (with_reducible refine (impl_isFrac.calls k (wrap64 (Int.tdiv a0 (wrap64 (-t248)))) (wrap64 (Int.tdiv a1 (wrap64 (-t248)))) true _ A6.out).mono ?_); rintro e w16 ⟨rfl, hb⟩; refine ⟨_, rfl, ?_⟩; replace BK247 := Aside0.mk (blk_below (g := gb247) (o := .cells #[.int .i64 0, .int .i64 0] 36 (0, 0)) (by (with_reducible repeat (first | refine blk_drewN ?_ _ | refine blk_drew ?_ | refine blk_alloc ?_ _)); refine blk_far ?_ NB247_249.out _; (with_reducible repeat (first | refine blk_drewN ?_ _ | refine blk_drew ?_ | refine blk_alloc ?_ _)); refine blk_far ?_ NB247_249.out _; (with_reducible repeat (first | refine blk_drewN ?_ _ | refine blk_drew ?_ | refine blk_alloc ?_ _)); exact BK247.out) hb); replace BK249 := Aside0.mk (blk_below (g := gb249) (o := .cells #[.int .i64 (wrap64 (Int.tdiv a0 (wrap64 (-t248)))), .int .i64 (wrap64 (Int.tdiv a1 (wrap64 (-t248))))] 36 (0, 0)) (by (with_reducible repeat (first | refine blk_drewN ?_ _ | refine blk_drew ?_ | refine blk_alloc ?_ _)); refine blk_put (cs := #[.int .i64 (wrap64 (Int.tdiv a0 (wrap64 (-t248)))), .int .i64 0]) ?_ 1 _ rfl; (with_reducible repeat (first | refine blk_drewN ?_ _ | refine blk_drew ?_ | refine blk_alloc ?_ _)); refine blk_put (cs := #[.int .i64 0, .int .i64 0]) ?_ 0 _ rfl; (with_reducible repeat (first | refine blk_drewN ?_ _ | refine blk_drew ?_ | refine blk_alloc ?_ _)); exact BK249.out) hb); replace HB := Aside0.mk (below_step (qz4_) hb); (try clear hb); (try clear hk hi); obtain ⟨hcz17_0, hcz17_1, hfz17_0, hfz17_1⟩ := blk2_ BK249; obtain ⟨hcz18_0, hcz18_1, hfz18_0, hfz18_1⟩ := blk2_ BK247))
    refine bodyPost_ret (results_ct rfl _ _ gb247 36 #[.int .i64 (wrap64 (Int.tdiv a0 (wrap64 (-t248)))), .int .i64 (wrap64 (Int.tdiv a1 (wrap64 (-t248))))] (0, 0) _ rfl (by (with_reducible repeat (first | refine blk_drewN ?_ _ | refine blk_drew ?_ | refine blk_alloc ?_ _)); refine blk_put (cs := #[.int .i64 (wrap64 (Int.tdiv a0 (wrap64 (-t248)))), .int .i64 0]) ?_ 1 _ rfl; (with_reducible repeat (first | refine blk_drewN ?_ _ | refine blk_drew ?_ | refine blk_alloc ?_ _)); refine blk_put (cs := #[.int .i64 0, .int .i64 0]) ?_ 0 _ rfl; (with_reducible repeat (first | refine blk_drewN ?_ _ | refine blk_drew ?_ | refine blk_alloc ?_ _)); exact BK247.out) Try.underlying36 rfl (g0_)) rfl ?_
    exact ⟨g4_, qz4_⟩
   ·replace c7 := Bool.eq_false_iff.mpr c7
    subst c7
    replace H := ifn_ H
    simp only [Option.some.injEq, Prod.mk.injEq] at H
    obtain ⟨rfl, rfl, rfl⟩ := H
    go_enter Try.func92, Try.ntmps92
    try go_wp2_with (first | ((with_reducible refine gate_dst (N := 4) rfl ?_); refine bx_ (N := 4) #[.int .i64 0, .int .i64 0] 36 ?_; intro gb247 hg w19 hbox hb; have BK247 := Aside0.mk (hbox); have GW247 := Aside0.mk ((g18_ : w.heap.size ≤ gb247)); have GE247 := Aside0.mk ((g18_ : w.heap.size ≤ gb247)); replace HB := Aside0.mk (below_step (qz4_) hb); clear hb hbox hg) | ((with_reducible refine gate_callee (f := 97) rfl ?_); refine goesL_ (some 10) rfl rfl Try.func97 k_ rfl #[.int .i64 a0, .int .i64 a1] rfl (g2_) ?_; (with_reducible refine (impl_gcd.calls k a0 a1 t248 _ A3.out).mono ?_); rintro e w20 ⟨rfl, hb⟩; refine ⟨_, rfl, ?_⟩; replace BK247 := bb_ BK247 hb; replace HB := Aside0.mk (below_step (qz4_) hb); (try clear hb); (try clear hk hi)))
    replace BK247 := Aside0.mk (blk_drew BK247.out)
    replace HB := Aside0.mk (below_drew1 HB.out)
    refine start_ (n := 9) (S := fun w' => True) (ds := []) (tl_ 9 0) (g0_) rfl (g0_) trivial (fun hHeld => ?_); refine with_tabW impl_lowest.tab4 impl_lowest.bits4 (fun HT_ HW_ => ?_)
    generalize w20.drew = w21 at BK247 HB hHeld ⊢
    refine pw_ 0 15 (tl_ 9 1) rfl rfl ?_
    refine pw_ 1 16 (tl_ 9 3) rfl rfl ?_
    refine pw_ 2 17 (tl_ 9 7) rfl rfl ?_
    refine pw_ 3 18 (tl_ 9 15) rfl rfl ?_
    refine pw_ 4 19 (tl_ 9 31) rfl rfl ?_
    refine pw_ 5 20 (tl_ 9 63) rfl rfl ?_
    refine pw_ 6 21 (tl_ 9 127) rfl rfl ?_
    refine one_ (i := 7) (N := some 7) (tl_ 9 255) rfl rfl (one_of HT_.out (g0_)) (by decide) (fun K hK => ?_)
    refine bs_ (N := 7) #[.int .i64 0, .int .i64 0] 36 ?_
    intro gb249 hg w22 hbox hb
    have BK249 := Aside0.mk (hbox)
    have GW249 := Aside0.mk ((g18_ : w.heap.size ≤ gb249))
    have GE249 := Aside0.mk ((g18_ : w.heap.size ≤ gb249))
    replace HB := Aside0.mk (below_step (qz4_) hb)
    have NB247_249 := Aside0.mk ((g88_ : gb247 ≠ gb249))
    have NB249_247 := Aside0.mk ((g89_ : gb249 ≠ gb247))
    replace BK247 := bb_ BK247 hb
    clear hb hbox hg
    refine hK.out _ _ trivial (fun hHeld => ?_)
    clear hK K
    refine nm_ ?_
    refine one_ (i := 8) (N := none) (tl_ 9 511) rfl rfl (one_of HT_.out (g0_)) (by decide) (fun K hK => ?_)
    have hs23 : w22.cell? ⟨gb249, 0, none⟩ = some (.int .i64 0) := (blk_cell BK249.out 0).trans rfl
    have hfs23 := blk_frozen BK249.out 0
    have hns23_0 := NB247_249.out
    have hms23_0 := NB249_247.out
    have hs24 : w22.cell? ⟨gb249, 1, none⟩ = some (.int .i64 0) := (blk_cell BK249.out 1).trans rfl
    have hfs24 := blk_frozen BK249.out 1
    have hns24_0 := NB247_249.out
    have hms24_0 := NB249_247.out
    refine skip_ (w1 := ?_) (by rfl) rfl ?_ ?_
    rotate_left
    ·go_simp
     rfl
    refine hK.out _ _ trivial (fun hHeld => ?_)
    clear hK K
    refine done_ (done_of HT_.out (g0_)) ?_
    have hnb25 := NB249_247.out
    have hnc25 := NB247_249.out
    obtain ⟨hcz26_0, hcz26_1, hfz26_0, hfz26_1⟩ := blk2_ BK249
    try go_wp2_with (first | ((with_reducible refine gate_callee (f := 77) rfl ?_); refine goesL_ (some 23) rfl rfl Try.func77 k_ rfl #[.agg #[.int .i64 (wrap64 (Int.tdiv a0 (wrap64 (-t248)))), .int .i64 (wrap64 (Int.tdiv a1 (wrap64 (-t248))))]] rfl (g2_) ?_; (with_reducible refine (impl_isFrac.calls k (wrap64 (Int.tdiv a0 (wrap64 (-t248)))) (wrap64 (Int.tdiv a1 (wrap64 (-t248)))) false _ A6.out).mono ?_); rintro e w27 ⟨rfl, hb⟩; refine ⟨_, rfl, ?_⟩; replace BK247 := Aside0.mk (blk_below (g := gb247) (o := .cells #[.int .i64 0, .int .i64 0] 36 (0, 0)) (by (with_reducible repeat (first | refine blk_drewN ?_ _ | refine blk_drew ?_ | refine blk_alloc ?_ _)); refine blk_far ?_ NB247_249.out _; (with_reducible repeat (first | refine blk_drewN ?_ _ | refine blk_drew ?_ | refine blk_alloc ?_ _)); refine blk_far ?_ NB247_249.out _; (with_reducible repeat (first | refine blk_drewN ?_ _ | refine blk_drew ?_ | refine blk_alloc ?_ _)); exact BK247.out) hb); replace BK249 := Aside0.mk (blk_below (g := gb249) (o := .cells #[.int .i64 (wrap64 (Int.tdiv a0 (wrap64 (-t248)))), .int .i64 (wrap64 (Int.tdiv a1 (wrap64 (-t248))))] 36 (0, 0)) (by (with_reducible repeat (first | refine blk_drewN ?_ _ | refine blk_drew ?_ | refine blk_alloc ?_ _)); refine blk_put (cs := #[.int .i64 (wrap64 (Int.tdiv a0 (wrap64 (-t248)))), .int .i64 0]) ?_ 1 _ rfl; (with_reducible repeat (first | refine blk_drewN ?_ _ | refine blk_drew ?_ | refine blk_alloc ?_ _)); refine blk_put (cs := #[.int .i64 0, .int .i64 0]) ?_ 0 _ rfl; (with_reducible repeat (first | refine blk_drewN ?_ _ | refine blk_drew ?_ | refine blk_alloc ?_ _)); exact BK249.out) hb); replace HB := Aside0.mk (below_step (qz4_) hb); (try clear hb); (try clear hk hi); obtain ⟨hcz28_0, hcz28_1, hfz28_0, hfz28_1⟩ := blk2_ BK247))
    refine bodyPost_ret (results_ct rfl _ _ gb247 36 #[.int .i64 0, .int .i64 0] (0, 0) _ rfl (by (with_reducible repeat (first | refine blk_drewN ?_ _ | refine blk_drew ?_ | refine blk_alloc ?_ _)); refine blk_put (cs := #[.int .i64 0, .int .i64 0]) ?_ 1 _ rfl; (with_reducible repeat (first | refine blk_drewN ?_ _ | refine blk_drew ?_ | refine blk_alloc ?_ _)); refine blk_put (cs := #[.int .i64 0, .int .i64 0]) ?_ 0 _ rfl; (with_reducible repeat (first | refine blk_drewN ?_ _ | refine blk_drew ?_ | refine blk_alloc ?_ _)); exact BK247.out) Try.underlying36 rfl (g0_)) rfl ?_
    exact ⟨g4_, qz4_⟩
 ·rw [if_neg c4] at H
  have c4b0 := decide_eq_false c4
  clear c4
  by_cases c29 : t248 = 0
  ·rw [if_pos c29] at H
   exact absurd H (by simp)
  ·rw [if_neg c29] at H
   have c29b0 : (t248 == 0) = false := beq_eq_false_iff_ne.mpr c29
   have c29b1 : (t248 != 0) = true := bne_iff_ne.mpr c29
   obtain ⟨t252, A30, H⟩ := bind_ H
   by_cases c31 : t252 = true
   ·subst c31
    replace H := ifp_ H
    simp only [Option.some.injEq, Prod.mk.injEq] at H
    obtain ⟨rfl, rfl, rfl⟩ := H
    go_enter Try.func92, Try.ntmps92
    try go_wp2_with (first | ((with_reducible refine gate_dst (N := 4) rfl ?_); refine bx_ (N := 4) #[.int .i64 0, .int .i64 0] 36 ?_; intro gb247 hg w32 hbox hb; have BK247 := Aside0.mk (hbox); have GW247 := Aside0.mk ((g18_ : w.heap.size ≤ gb247)); have GE247 := Aside0.mk ((g18_ : w.heap.size ≤ gb247)); replace HB := Aside0.mk (below_step (qz4_) hb); clear hb hbox hg) | ((with_reducible refine gate_callee (f := 97) rfl ?_); refine goesL_ (some 10) rfl rfl Try.func97 k_ rfl #[.int .i64 a0, .int .i64 a1] rfl (g2_) ?_; (with_reducible refine (impl_gcd.calls k a0 a1 t248 _ A3.out).mono ?_); rintro e w33 ⟨rfl, hb⟩; refine ⟨_, rfl, ?_⟩; replace BK247 := bb_ BK247 hb; replace HB := Aside0.mk (below_step (qz4_) hb); (try clear hb); (try clear hk hi)))
    replace BK247 := Aside0.mk (blk_drew BK247.out)
    replace HB := Aside0.mk (below_drew1 HB.out)
    refine start_ (n := 9) (S := fun w' => True) (ds := []) (tl_ 9 0) (g0_) rfl (g0_) trivial (fun hHeld => ?_); refine with_tabW impl_lowest.tab4 impl_lowest.bits4 (fun HT_ HW_ => ?_)
    generalize w33.drew = w34 at BK247 HB hHeld ⊢
    refine pw_ 0 15 (tl_ 9 1) rfl rfl ?_
    refine pw_ 1 16 (tl_ 9 3) rfl rfl ?_
    refine pw_ 2 17 (tl_ 9 7) rfl rfl ?_
    refine pw_ 3 18 (tl_ 9 15) rfl rfl ?_
    refine pw_ 4 19 (tl_ 9 31) rfl rfl ?_
    refine pw_ 5 20 (tl_ 9 63) rfl rfl ?_
    refine pw_ 6 21 (tl_ 9 127) rfl rfl ?_
    refine one_ (i := 7) (N := some 7) (tl_ 9 255) rfl rfl (one_of HT_.out (g0_)) (by decide) (fun K hK => ?_)
    refine bs_ (N := 7) #[.int .i64 0, .int .i64 0] 36 ?_
    intro gb251 hg w35 hbox hb
    have BK251 := Aside0.mk (hbox)
    have GW251 := Aside0.mk ((g18_ : w.heap.size ≤ gb251))
    have GE251 := Aside0.mk ((g18_ : w.heap.size ≤ gb251))
    replace HB := Aside0.mk (below_step (qz4_) hb)
    have NB247_251 := Aside0.mk ((g88_ : gb247 ≠ gb251))
    have NB251_247 := Aside0.mk ((g89_ : gb251 ≠ gb247))
    replace BK247 := bb_ BK247 hb
    clear hb hbox hg
    refine hK.out _ _ trivial (fun hHeld => ?_)
    clear hK K
    refine nm_ ?_
    refine one_ (i := 8) (N := none) (tl_ 9 511) rfl rfl (one_of HT_.out (g0_)) (by decide) (fun K hK => ?_)
    have hs36 : w35.cell? ⟨gb251, 0, none⟩ = some (.int .i64 0) := (blk_cell BK251.out 0).trans rfl
    have hfs36 := blk_frozen BK251.out 0
    have hns36_0 := NB247_251.out
    have hms36_0 := NB251_247.out
    have hs37 : w35.cell? ⟨gb251, 1, none⟩ = some (.int .i64 0) := (blk_cell BK251.out 1).trans rfl
    have hfs37 := blk_frozen BK251.out 1
    have hns37_0 := NB247_251.out
    have hms37_0 := NB251_247.out
    refine skip_ (w1 := ?_) (by rfl) rfl ?_ ?_
    rotate_left
    ·go_simp
     rfl
    refine hK.out _ _ trivial (fun hHeld => ?_)
    clear hK K
    refine done_ (done_of HT_.out (g0_)) ?_
    have hnb38 := NB251_247.out
    have hnc38 := NB247_251.out
    obtain ⟨hcz39_0, hcz39_1, hfz39_0, hfz39_1⟩ := blk2_ BK251
    try go_wp2_with (first | ((with_reducible refine gate_callee (f := 77) rfl ?_); refine goesL_ (some 23) rfl rfl Try.func77 k_ rfl #[.agg #[.int .i64 (wrap64 (Int.tdiv a0 t248)), .int .i64 (wrap64 (Int.tdiv a1 t248))]] rfl (g2_) ?_; (with_reducible refine (impl_isFrac.calls k (wrap64 (Int.tdiv a0 t248)) (wrap64 (Int.tdiv a1 t248)) true _ A30.out).mono ?_); rintro e w40 ⟨rfl, hb⟩; refine ⟨_, rfl, ?_⟩; replace BK247 := Aside0.mk (blk_below (g := gb247) (o := .cells #[.int .i64 0, .int .i64 0] 36 (0, 0)) (by (with_reducible repeat (first | refine blk_drewN ?_ _ | refine blk_drew ?_ | refine blk_alloc ?_ _)); refine blk_far ?_ NB247_251.out _; (with_reducible repeat (first | refine blk_drewN ?_ _ | refine blk_drew ?_ | refine blk_alloc ?_ _)); refine blk_far ?_ NB247_251.out _; (with_reducible repeat (first | refine blk_drewN ?_ _ | refine blk_drew ?_ | refine blk_alloc ?_ _)); exact BK247.out) hb); replace BK251 := Aside0.mk (blk_below (g := gb251) (o := .cells #[.int .i64 (wrap64 (Int.tdiv a0 t248)), .int .i64 (wrap64 (Int.tdiv a1 t248))] 36 (0, 0)) (by (with_reducible repeat (first | refine blk_drewN ?_ _ | refine blk_drew ?_ | refine blk_alloc ?_ _)); refine blk_put (cs := #[.int .i64 (wrap64 (Int.tdiv a0 t248)), .int .i64 0]) ?_ 1 _ rfl; (with_reducible repeat (first | refine blk_drewN ?_ _ | refine blk_drew ?_ | refine blk_alloc ?_ _)); refine blk_put (cs := #[.int .i64 0, .int .i64 0]) ?_ 0 _ rfl; (with_reducible repeat (first | refine blk_drewN ?_ _ | refine blk_drew ?_ | refine blk_alloc ?_ _)); exact BK251.out) hb); replace HB := Aside0.mk (below_step (qz4_) hb); (try clear hb); (try clear hk hi); obtain ⟨hcz41_0, hcz41_1, hfz41_0, hfz41_1⟩ := blk2_ BK251; obtain ⟨hcz42_0, hcz42_1, hfz42_0, hfz42_1⟩ := blk2_ BK247))
    refine bodyPost_ret (results_ct rfl _ _ gb247 36 #[.int .i64 (wrap64 (Int.tdiv a0 t248)), .int .i64 (wrap64 (Int.tdiv a1 t248))] (0, 0) _ rfl (by (with_reducible repeat (first | refine blk_drewN ?_ _ | refine blk_drew ?_ | refine blk_alloc ?_ _)); refine blk_put (cs := #[.int .i64 (wrap64 (Int.tdiv a0 t248)), .int .i64 0]) ?_ 1 _ rfl; (with_reducible repeat (first | refine blk_drewN ?_ _ | refine blk_drew ?_ | refine blk_alloc ?_ _)); refine blk_put (cs := #[.int .i64 0, .int .i64 0]) ?_ 0 _ rfl; (with_reducible repeat (first | refine blk_drewN ?_ _ | refine blk_drew ?_ | refine blk_alloc ?_ _)); exact BK247.out) Try.underlying36 rfl (g0_)) rfl ?_
    exact ⟨g4_, qz4_⟩
   ·replace c31 := Bool.eq_false_iff.mpr c31
    subst c31
    replace H := ifn_ H
    simp only [Option.some.injEq, Prod.mk.injEq] at H
    obtain ⟨rfl, rfl, rfl⟩ := H
    go_enter Try.func92, Try.ntmps92
    try go_wp2_with (first | ((with_reducible refine gate_dst (N := 4) rfl ?_); refine bx_ (N := 4) #[.int .i64 0, .int .i64 0] 36 ?_; intro gb247 hg w43 hbox hb; have BK247 := Aside0.mk (hbox); have GW247 := Aside0.mk ((g18_ : w.heap.size ≤ gb247)); have GE247 := Aside0.mk ((g18_ : w.heap.size ≤ gb247)); replace HB := Aside0.mk (below_step (qz4_) hb); clear hb hbox hg) | ((with_reducible refine gate_callee (f := 97) rfl ?_); refine goesL_ (some 10) rfl rfl Try.func97 k_ rfl #[.int .i64 a0, .int .i64 a1] rfl (g2_) ?_; (with_reducible refine (impl_gcd.calls k a0 a1 t248 _ A3.out).mono ?_); rintro e w44 ⟨rfl, hb⟩; refine ⟨_, rfl, ?_⟩; replace BK247 := bb_ BK247 hb; replace HB := Aside0.mk (below_step (qz4_) hb); (try clear hb); (try clear hk hi)))
    replace BK247 := Aside0.mk (blk_drew BK247.out)
    replace HB := Aside0.mk (below_drew1 HB.out)
    refine start_ (n := 9) (S := fun w' => True) (ds := []) (tl_ 9 0) (g0_) rfl (g0_) trivial (fun hHeld => ?_); refine with_tabW impl_lowest.tab4 impl_lowest.bits4 (fun HT_ HW_ => ?_)
    generalize w44.drew = w45 at BK247 HB hHeld ⊢
    refine pw_ 0 15 (tl_ 9 1) rfl rfl ?_
    refine pw_ 1 16 (tl_ 9 3) rfl rfl ?_
    refine pw_ 2 17 (tl_ 9 7) rfl rfl ?_
    refine pw_ 3 18 (tl_ 9 15) rfl rfl ?_
    refine pw_ 4 19 (tl_ 9 31) rfl rfl ?_
    refine pw_ 5 20 (tl_ 9 63) rfl rfl ?_
    refine pw_ 6 21 (tl_ 9 127) rfl rfl ?_
    refine one_ (i := 7) (N := some 7) (tl_ 9 255) rfl rfl (one_of HT_.out (g0_)) (by decide) (fun K hK => ?_)
    refine bs_ (N := 7) #[.int .i64 0, .int .i64 0] 36 ?_
    intro gb251 hg w46 hbox hb
    have BK251 := Aside0.mk (hbox)
    have GW251 := Aside0.mk ((g18_ : w.heap.size ≤ gb251))
    have GE251 := Aside0.mk ((g18_ : w.heap.size ≤ gb251))
    replace HB := Aside0.mk (below_step (qz4_) hb)
    have NB247_251 := Aside0.mk ((g88_ : gb247 ≠ gb251))
    have NB251_247 := Aside0.mk ((g89_ : gb251 ≠ gb247))
    replace BK247 := bb_ BK247 hb
    clear hb hbox hg
    refine hK.out _ _ trivial (fun hHeld => ?_)
    clear hK K
    refine nm_ ?_
    refine one_ (i := 8) (N := none) (tl_ 9 511) rfl rfl (one_of HT_.out (g0_)) (by decide) (fun K hK => ?_)
    have hs47 : w46.cell? ⟨gb251, 0, none⟩ = some (.int .i64 0) := (blk_cell BK251.out 0).trans rfl
    have hfs47 := blk_frozen BK251.out 0
    have hns47_0 := NB247_251.out
    have hms47_0 := NB251_247.out
    have hs48 : w46.cell? ⟨gb251, 1, none⟩ = some (.int .i64 0) := (blk_cell BK251.out 1).trans rfl
    have hfs48 := blk_frozen BK251.out 1
    have hns48_0 := NB247_251.out
    have hms48_0 := NB251_247.out
    refine skip_ (w1 := ?_) (by rfl) rfl ?_ ?_
    rotate_left
    ·go_simp
     rfl
    refine hK.out _ _ trivial (fun hHeld => ?_)
    clear hK K
    refine done_ (done_of HT_.out (g0_)) ?_
    have hnb49 := NB251_247.out
    have hnc49 := NB247_251.out
    obtain ⟨hcz50_0, hcz50_1, hfz50_0, hfz50_1⟩ := blk2_ BK251
    try go_wp2_with (first | ((with_reducible refine gate_callee (f := 77) rfl ?_); refine goesL_ (some 23) rfl rfl Try.func77 k_ rfl #[.agg #[.int .i64 (wrap64 (Int.tdiv a0 t248)), .int .i64 (wrap64 (Int.tdiv a1 t248))]] rfl (g2_) ?_; (with_reducible refine (impl_isFrac.calls k (wrap64 (Int.tdiv a0 t248)) (wrap64 (Int.tdiv a1 t248)) false _ A30.out).mono ?_); rintro e w51 ⟨rfl, hb⟩; refine ⟨_, rfl, ?_⟩; replace BK247 := Aside0.mk (blk_below (g := gb247) (o := .cells #[.int .i64 0, .int .i64 0] 36 (0, 0)) (by (with_reducible repeat (first | refine blk_drewN ?_ _ | refine blk_drew ?_ | refine blk_alloc ?_ _)); refine blk_far ?_ NB247_251.out _; (with_reducible repeat (first | refine blk_drewN ?_ _ | refine blk_drew ?_ | refine blk_alloc ?_ _)); refine blk_far ?_ NB247_251.out _; (with_reducible repeat (first | refine blk_drewN ?_ _ | refine blk_drew ?_ | refine blk_alloc ?_ _)); exact BK247.out) hb); replace BK251 := Aside0.mk (blk_below (g := gb251) (o := .cells #[.int .i64 (wrap64 (Int.tdiv a0 t248)), .int .i64 (wrap64 (Int.tdiv a1 t248))] 36 (0, 0)) (by (with_reducible repeat (first | refine blk_drewN ?_ _ | refine blk_drew ?_ | refine blk_alloc ?_ _)); refine blk_put (cs := #[.int .i64 (wrap64 (Int.tdiv a0 t248)), .int .i64 0]) ?_ 1 _ rfl; (with_reducible repeat (first | refine blk_drewN ?_ _ | refine blk_drew ?_ | refine blk_alloc ?_ _)); refine blk_put (cs := #[.int .i64 0, .int .i64 0]) ?_ 0 _ rfl; (with_reducible repeat (first | refine blk_drewN ?_ _ | refine blk_drew ?_ | refine blk_alloc ?_ _)); exact BK251.out) hb); replace HB := Aside0.mk (below_step (qz4_) hb); (try clear hb); (try clear hk hi); obtain ⟨hcz52_0, hcz52_1, hfz52_0, hfz52_1⟩ := blk2_ BK247))
    refine bodyPost_ret (results_ct rfl _ _ gb247 36 #[.int .i64 0, .int .i64 0] (0, 0) _ rfl (by (with_reducible repeat (first | refine blk_drewN ?_ _ | refine blk_drew ?_ | refine blk_alloc ?_ _)); refine blk_put (cs := #[.int .i64 0, .int .i64 0]) ?_ 1 _ rfl; (with_reducible repeat (first | refine blk_drewN ?_ _ | refine blk_drew ?_ | refine blk_alloc ?_ _)); refine blk_put (cs := #[.int .i64 0, .int .i64 0]) ?_ 0 _ rfl; (with_reducible repeat (first | refine blk_drewN ?_ _ | refine blk_drew ?_ | refine blk_alloc ?_ _)); exact BK247.out) Try.underlying36 rfl (g0_)) rfl ?_
    exact ⟨g4_, qz4_⟩
def impl_plus.f (k : Nat) (a0_0 : Int) (a0_1 : Int) (a1_0 : Int) (a1_1 : Int) : Option (Int × Int × Bool) := (impl_lowest.f k (wrap64 ((wrap64 (a0_0 * a1_1)) + (wrap64 (a1_0 * a0_1)))) (wrap64 (a0_1 * a1_1))).bind fun bt256 => (some (bt256.1, bt256.2.1, bt256.2.2))
theorem impl_plus.mq {p : Prop} (h : p := by
 repeat' first
 | (with_reducible exact impl_lowest.mono _ _ _)
 | (with_reducible exact LeO.refl _)
 | (with_reducible exact LeO.none _)
 | (with_reducible refine LeO.ite ?_ ?_)
 | (with_reducible refine LeO.bind ?_ (fun _ => ?_))
 | exact impl_lowest.mono _ _ _
 | exact LeO.none _
 | refine LeO.ite ?_ ?_
 | refine LeO.bind ?_ (fun _ => ?_)) : p := h
theorem impl_plus.mono : ∀ a0 a1 a2 a3 k, LeO (impl_plus.f k a0 a1 a2 a3) (impl_plus.f (k + 1) a0 a1 a2 a3) := by
 intro a0 a1 a2 a3 k
 unfold impl_plus.f
 exact impl_plus.mq
theorem qz10_ {p : Prop} (h : p := by repeat (first | (with_reducible first | exact HB.out | apply below_alloc | apply pw_below_drewN | apply below_drew1 | refine below_set ?_ GE253.out | refine below_set ?_ GE254.out | refine below_set ?_ GE255.out) | exact HB.out)) : p := h
set_option maxHeartbeats 8000000 in
set_option maxRecDepth 100000 in
theorem impl_plus.calls (k : Nat) (a0_0 : Int) (a0_1 : Int) (a1_0 : Int) (a1_1 : Int) (r1 : Int) (r2 : Int) (r3 : Bool) (w : World) (h : impl_plus.f k a0_0 a0_1 a1_0 a1_1 = some (r1, r2, r3)) :
  Calls Try.prog 81 #[.agg #[.int .i64 a0_0, .int .i64 a0_1], .agg #[.int .i64 a1_0, .int .i64 a1_1]] w fun e w' => e = .returned (.tuple #[.agg #[.int .i64 r1, .int .i64 r2], .bool r3]) ∧ Below w.heap.size w w' := by
 have hu36 := Try.underlying36
 have HB := Aside0.mk (Below.refl w.heap.size w)
 have H : ((impl_lowest.f k (wrap64 ((wrap64 (a0_0 * a1_1)) + (wrap64 (a1_0 * a0_1)))) (wrap64 (a0_1 * a1_1))).bind fun bt256 => (some (bt256.1, bt256.2.1, bt256.2.2))) = some (r1, r2, r3) := h
 clear h
 replace H := Option.bind_eq_some_iff.mp H
 obtain ⟨⟨t256, t257, t258⟩, A30, H⟩ := H
 replace H : (some (t256, t257, t258)) = some (r1, r2, r3) := H
 have A3 := Aside0.mk A30
 clear A30
 simp only [Option.some.injEq, Prod.mk.injEq] at H
 obtain ⟨rfl, rfl, rfl⟩ := H
 go_enter Try.func81, Try.ntmps81
 go_wp2_with (first | ((with_reducible refine gate_dst (N := 2) rfl ?_); refine bx_ (N := 2) #[.int .i64 a0_0, .int .i64 a0_1] 36 ?_; intro gb253 hg w4 hbox hb; have BK253 := Aside0.mk (hbox); have GW253 := Aside0.mk ((g50_ : w.heap.size ≤ gb253)); have GE253 := Aside0.mk ((g50_ : w.heap.size ≤ gb253)); replace HB := Aside0.mk (below_step (qz10_) hb); clear hb hbox hg) | ((with_reducible refine gate_dst (N := 3) rfl ?_); refine bx_ (N := 3) #[.int .i64 a1_0, .int .i64 a1_1] 36 ?_; intro gb254 hg w5 hbox hb; have BK254 := Aside0.mk (hbox); have GW254 := Aside0.mk ((g50_ : w.heap.size ≤ gb254)); have GE254 := Aside0.mk ((g50_ : w.heap.size ≤ gb254)); replace HB := Aside0.mk (below_step (qz10_) hb); have NB253_254 := Aside0.mk ((by rw [hg]; exact Nat.ne_of_lt (blk_lt (g := gb253) (o := .cells #[.int .i64 a0_0, .int .i64 a0_1] 36 (0, 0)) (uf0_ BK253)) : gb253 ≠ gb254)); have NB254_253 := Aside0.mk ((by rw [hg]; exact Nat.ne_of_gt (blk_lt (g := gb253) (o := .cells #[.int .i64 a0_0, .int .i64 a0_1] 36 (0, 0)) (uf0_ BK253)) : gb254 ≠ gb253)); replace BK253 := bb_ BK253 hb; clear hb hbox hg) | ((with_reducible refine gate_dst (N := 4) rfl ?_); refine bx_ (N := 4) #[.int .i64 0, .int .i64 0] 36 ?_; intro gb255 hg w6 hbox hb; have BK255 := Aside0.mk (hbox); have GW255 := Aside0.mk ((g50_ : w.heap.size ≤ gb255)); have GE255 := Aside0.mk ((g50_ : w.heap.size ≤ gb255)); replace HB := Aside0.mk (below_step (qz10_) hb); have NB253_255 := Aside0.mk ((by rw [hg]; exact Nat.ne_of_lt (blk_lt (g := gb253) (o := .cells #[.int .i64 a0_0, .int .i64 a0_1] 36 (0, 0)) (uf0_ BK253)) : gb253 ≠ gb255)); have NB255_253 := Aside0.mk ((by rw [hg]; exact Nat.ne_of_gt (blk_lt (g := gb253) (o := .cells #[.int .i64 a0_0, .int .i64 a0_1] 36 (0, 0)) (uf0_ BK253)) : gb255 ≠ gb253)); replace BK253 := bb_ BK253 hb; have NB254_255 := Aside0.mk ((by rw [hg]; exact Nat.ne_of_lt (blk_lt (g := gb254) (o := .cells #[.int .i64 a1_0, .int .i64 a1_1] 36 (0, 0)) (uf0_ BK254)) : gb254 ≠ gb255)); have NB255_254 := Aside0.mk ((by rw [hg]; exact Nat.ne_of_gt (blk_lt (g := gb254) (o := .cells #[.int .i64 a1_0, .int .i64 a1_1] 36 (0, 0)) (uf0_ BK254)) : gb255 ≠ gb254)); replace BK254 := bb_ BK254 hb; clear hb hbox hg; have hnb7 := NB253_254.out; have hnc7 := NB254_253.out; have hnb8 := NB253_255.out; have hnc8 := NB255_253.out; obtain ⟨hcz9_0, hcz9_1, hfz9_0, hfz9_1⟩ := blk2_ BK253; have hnb10 := NB254_255.out; have hnc10 := NB255_254.out; obtain ⟨hcz11_0, hcz11_1, hfz11_0, hfz11_1⟩ := blk2_ BK254) | ((with_reducible refine gate_callee (f := 92) rfl ?_); refine goesL_ (some 22) rfl rfl Try.func92 k_ rfl #[.int .i64 (wrap64 ((wrap64 (a0_0 * a1_1)) + (wrap64 (a1_0 * a0_1)))), .int .i64 (wrap64 (a0_1 * a1_1))] rfl (g2_) ?_; (with_reducible refine (impl_lowest.calls k (wrap64 ((wrap64 (a0_0 * a1_1)) + (wrap64 (a1_0 * a0_1)))) (wrap64 (a0_1 * a1_1)) t256 t257 t258 _ A3.out).mono ?_); rintro e w12 ⟨rfl, hb⟩; refine ⟨_, rfl, ?_⟩; replace BK253 := bb_ BK253 hb; replace BK254 := bb_ BK254 hb; replace BK255 := bb_ BK255 hb; replace HB := Aside0.mk (below_step (qz10_) hb); (try clear hb); (try clear hk hi); obtain ⟨hcz13_0, hcz13_1, hfz13_0, hfz13_1⟩ := blk2_ BK255))
 refine bodyPost_ret (results_ct rfl _ _ gb255 36 #[.int .i64 t256, .int .i64 t257] (0, 0) _ rfl (by (with_reducible repeat (first | refine blk_drewN ?_ _ | refine blk_drew ?_ | refine blk_alloc ?_ _)); refine blk_put (cs := #[.int .i64 t256, .int .i64 0]) ?_ 1 _ rfl; (with_reducible repeat (first | refine blk_drewN ?_ _ | refine blk_drew ?_ | refine blk_alloc ?_ _)); refine blk_put (cs := #[.int .i64 0, .int .i64 0]) ?_ 0 _ rfl; (with_reducible repeat (first | refine blk_drewN ?_ _ | refine blk_drew ?_ | refine blk_alloc ?_ _)); exact BK255.out) Try.underlying36 rfl (g0_)) rfl ?_
 exact ⟨g4_, qz10_⟩
def impl_times.f (k : Nat) (a0_0 : Int) (a0_1 : Int) (a1_0 : Int) (a1_1 : Int) : Option (Int × Int × Bool) := (impl_lowest.f k (wrap64 (a0_0 * a1_0)) (wrap64 (a0_1 * a1_1))).bind fun bt262 => (some (bt262.1, bt262.2.1, bt262.2.2))
theorem impl_times.mq {p : Prop} (h : p := by
 repeat' first
 | (with_reducible exact impl_lowest.mono _ _ _)
 | (with_reducible exact LeO.refl _)
 | (with_reducible exact LeO.none _)
 | (with_reducible refine LeO.ite ?_ ?_)
 | (with_reducible refine LeO.bind ?_ (fun _ => ?_))
 | exact impl_lowest.mono _ _ _
 | exact LeO.none _
 | refine LeO.ite ?_ ?_
 | refine LeO.bind ?_ (fun _ => ?_)) : p := h
theorem impl_times.mono : ∀ a0 a1 a2 a3 k, LeO (impl_times.f k a0 a1 a2 a3) (impl_times.f (k + 1) a0 a1 a2 a3) := by
 intro a0 a1 a2 a3 k
 unfold impl_times.f
 exact impl_times.mq
theorem qz11_ {p : Prop} (h : p := by repeat (first | (with_reducible first | exact HB.out | apply below_alloc | apply pw_below_drewN | apply below_drew1 | refine below_set ?_ GE259.out | refine below_set ?_ GE260.out | refine below_set ?_ GE261.out) | exact HB.out)) : p := h
set_option maxHeartbeats 8000000 in
set_option maxRecDepth 100000 in
theorem impl_times.calls (k : Nat) (a0_0 : Int) (a0_1 : Int) (a1_0 : Int) (a1_1 : Int) (r1 : Int) (r2 : Int) (r3 : Bool) (w : World) (h : impl_times.f k a0_0 a0_1 a1_0 a1_1 = some (r1, r2, r3)) :
  Calls Try.prog 93 #[.agg #[.int .i64 a0_0, .int .i64 a0_1], .agg #[.int .i64 a1_0, .int .i64 a1_1]] w fun e w' => e = .returned (.tuple #[.agg #[.int .i64 r1, .int .i64 r2], .bool r3]) ∧ Below w.heap.size w w' := by
 have hu36 := Try.underlying36
 have HB := Aside0.mk (Below.refl w.heap.size w)
 have H : ((impl_lowest.f k (wrap64 (a0_0 * a1_0)) (wrap64 (a0_1 * a1_1))).bind fun bt262 => (some (bt262.1, bt262.2.1, bt262.2.2))) = some (r1, r2, r3) := h
 clear h
 replace H := Option.bind_eq_some_iff.mp H
 obtain ⟨⟨t262, t263, t264⟩, A30, H⟩ := H
 replace H : (some (t262, t263, t264)) = some (r1, r2, r3) := H
 have A3 := Aside0.mk A30
 clear A30
 simp only [Option.some.injEq, Prod.mk.injEq] at H
 obtain ⟨rfl, rfl, rfl⟩ := H
 go_enter Try.func93, Try.ntmps93
 go_wp2_with (first | ((with_reducible refine gate_dst (N := 2) rfl ?_); refine bx_ (N := 2) #[.int .i64 a0_0, .int .i64 a0_1] 36 ?_; intro gb259 hg w4 hbox hb; have BK259 := Aside0.mk (hbox); have GW259 := Aside0.mk ((g51_ : w.heap.size ≤ gb259)); have GE259 := Aside0.mk ((g51_ : w.heap.size ≤ gb259)); replace HB := Aside0.mk (below_step (qz11_) hb); clear hb hbox hg) | ((with_reducible refine gate_dst (N := 3) rfl ?_); refine bx_ (N := 3) #[.int .i64 a1_0, .int .i64 a1_1] 36 ?_; intro gb260 hg w5 hbox hb; have BK260 := Aside0.mk (hbox); have GW260 := Aside0.mk ((g51_ : w.heap.size ≤ gb260)); have GE260 := Aside0.mk ((g51_ : w.heap.size ≤ gb260)); replace HB := Aside0.mk (below_step (qz11_) hb); have NB259_260 := Aside0.mk ((by rw [hg]; exact Nat.ne_of_lt (blk_lt (g := gb259) (o := .cells #[.int .i64 a0_0, .int .i64 a0_1] 36 (0, 0)) (uf0_ BK259)) : gb259 ≠ gb260)); have NB260_259 := Aside0.mk ((by rw [hg]; exact Nat.ne_of_gt (blk_lt (g := gb259) (o := .cells #[.int .i64 a0_0, .int .i64 a0_1] 36 (0, 0)) (uf0_ BK259)) : gb260 ≠ gb259)); replace BK259 := bb_ BK259 hb; clear hb hbox hg) | ((with_reducible refine gate_dst (N := 4) rfl ?_); refine bx_ (N := 4) #[.int .i64 0, .int .i64 0] 36 ?_; intro gb261 hg w6 hbox hb; have BK261 := Aside0.mk (hbox); have GW261 := Aside0.mk ((g51_ : w.heap.size ≤ gb261)); have GE261 := Aside0.mk ((g51_ : w.heap.size ≤ gb261)); replace HB := Aside0.mk (below_step (qz11_) hb); have NB259_261 := Aside0.mk ((by rw [hg]; exact Nat.ne_of_lt (blk_lt (g := gb259) (o := .cells #[.int .i64 a0_0, .int .i64 a0_1] 36 (0, 0)) (uf0_ BK259)) : gb259 ≠ gb261)); have NB261_259 := Aside0.mk ((by rw [hg]; exact Nat.ne_of_gt (blk_lt (g := gb259) (o := .cells #[.int .i64 a0_0, .int .i64 a0_1] 36 (0, 0)) (uf0_ BK259)) : gb261 ≠ gb259)); replace BK259 := bb_ BK259 hb; have NB260_261 := Aside0.mk ((by rw [hg]; exact Nat.ne_of_lt (blk_lt (g := gb260) (o := .cells #[.int .i64 a1_0, .int .i64 a1_1] 36 (0, 0)) (uf0_ BK260)) : gb260 ≠ gb261)); have NB261_260 := Aside0.mk ((by rw [hg]; exact Nat.ne_of_gt (blk_lt (g := gb260) (o := .cells #[.int .i64 a1_0, .int .i64 a1_1] 36 (0, 0)) (uf0_ BK260)) : gb261 ≠ gb260)); replace BK260 := bb_ BK260 hb; clear hb hbox hg; have hnb7 := NB259_260.out; have hnc7 := NB260_259.out; have hnb8 := NB259_261.out; have hnc8 := NB261_259.out; obtain ⟨hcz9_0, hcz9_1, hfz9_0, hfz9_1⟩ := blk2_ BK259; have hnb10 := NB260_261.out; have hnc10 := NB261_260.out; obtain ⟨hcz11_0, hcz11_1, hfz11_0, hfz11_1⟩ := blk2_ BK260) | ((with_reducible refine gate_callee (f := 92) rfl ?_); refine goesL_ (some 16) rfl rfl Try.func92 k_ rfl #[.int .i64 (wrap64 (a0_0 * a1_0)), .int .i64 (wrap64 (a0_1 * a1_1))] rfl (g2_) ?_; (with_reducible refine (impl_lowest.calls k (wrap64 (a0_0 * a1_0)) (wrap64 (a0_1 * a1_1)) t262 t263 t264 _ A3.out).mono ?_); rintro e w12 ⟨rfl, hb⟩; refine ⟨_, rfl, ?_⟩; replace BK259 := bb_ BK259 hb; replace BK260 := bb_ BK260 hb; replace BK261 := bb_ BK261 hb; replace HB := Aside0.mk (below_step (qz11_) hb); (try clear hb); (try clear hk hi); obtain ⟨hcz13_0, hcz13_1, hfz13_0, hfz13_1⟩ := blk2_ BK261))
 refine bodyPost_ret (results_ct rfl _ _ gb261 36 #[.int .i64 t262, .int .i64 t263] (0, 0) _ rfl (by (with_reducible repeat (first | refine blk_drewN ?_ _ | refine blk_drew ?_ | refine blk_alloc ?_ _)); refine blk_put (cs := #[.int .i64 t262, .int .i64 0]) ?_ 1 _ rfl; (with_reducible repeat (first | refine blk_drewN ?_ _ | refine blk_drew ?_ | refine blk_alloc ?_ _)); refine blk_put (cs := #[.int .i64 0, .int .i64 0]) ?_ 0 _ rfl; (with_reducible repeat (first | refine blk_drewN ?_ _ | refine blk_drew ?_ | refine blk_alloc ?_ _)); exact BK261.out) Try.underlying36 rfl (g0_)) rfl ?_
 exact ⟨g4_, qz11_⟩
end Go.Proofs.Ytigpmfoagkhaeaa.PU
