/- FnWithoutCircles: for every input the law holds. No condition. -/
import Derived.Test.YtfooakkhkehpiaaZFnWithoutCircles1
import Derived.Test.YtfooakkhkehpiaaZFnWithoutCircles2
namespace Go.Proofs.Ytfooakkhkehpiaa.PU
open Go.RowKit Go.Proofs.YtfooakkhkehpiaaW.PrintWords Go.Proofs.YtfooakkhkehpiaaW.PrintLast Go.Proofs.YtfooakkhkehpiaaW.PrintMore Go.Proofs.Ytfooakkhkehpiaa.Qd
attribute [local go_sem] max2_int min2_int max_two min_two max_three min_three max_four min_four
set_option linter.unusedVariables false
set_option linter.unusedSimpArgs false
mutual
def spec_l20Book.l0 : Nat → Int → Int → Int → Int → List Int → Int → List Int → List (List Int) → Option (List Int × (List (List Int)) × Int)
 | 0, _, _, _, _, _, _, _, _ => none
 | k + 1, x1, x5, x7, x8, e6, gl, o7, kv => if x8 < x5 then ((spec_l20Rd_pick.f k e6 gl 4).bind fun bt190 => ((spec_l20Rd_pick.f k e6 bt190.2 21).bind fun bt192 => ((some (([0, bt190.1, bt192.1] : List Int) : List Int)).bind fun o8 => (if 0 ≤ x7 then (if x7 < (o8.length : Int) then (if o7.length < 17592186044416 then (spec_l20Book.l1 k x1 x5 x7 x8 (([] : List Int)) 0 e6 bt192.2 (o7 ++ [rd o8 x7]) kv) else (none)) else (none)) else (none))))) else ((spec_l20Rd_odd.f k e6 gl x1).bind fun bt220 => (if bt220.1 = true then ((spec_l20Rd_pick.f k e6 bt220.2 4).bind fun bt222 => (if bt222.1 = 0 then (some (([] : List Int), ([] : List (List Int)), bt222.2)) else (if bt222.1 = 1 then (if 0 < (o7.length : Int) then (some ((o7.set (0 : Int).toNat (-1)), kv, bt222.2)) else (none)) else (if bt222.1 = 2 then (if 0 < (kv.length : Int) then (if 0 < ((rd_L1 kv 0).length : Int) then (some (o7, (kv.set (0 : Int).toNat ((rd_L1 kv 0).set (0 : Int).toNat 1)), bt222.2)) else (none)) else (none)) else (if 0 ≤ (wrap64 (x5 - 1)) then (if (wrap64 (x5 - 1)) < (kv.length : Int) then (if 1 ≤ ((rd_L1 kv (wrap64 (x5 - 1))).length : Int) then (some (o7, (kv.set ((wrap64 (x5 - 1)) : Int).toNat ((rd_L1 kv (wrap64 (x5 - 1))).drop 1)), bt222.2)) else (none)) else (none)) else (none)))))) else (some (o7, kv, bt220.2))))
def spec_l20Book.l1 : Nat → Int → Int → Int → Int → List Int → Int → List Int → Int → List Int → List (List Int) → Option (List Int × (List (List Int)) × Int)
 | 0, _, _, _, _, _, _, _, _, _, _ => none
 | k + 1, x1, x5, x7, x8, x9, i7, e6, gl, o7, kv => if i7 < x5 then (if x8 = i7 then (if x9.length < 17592186044416 then (spec_l20Book.l1 k x1 x5 x7 x8 (x9 ++ [0]) (wrap64 (i7 + 1)) e6 gl o7 kv) else (none)) else ((spec_l20Rd_pick.f k e6 gl 3).bind fun bt210 => (if bt210.1 > 0 then ((spec_l20Rd_pick.f k e6 bt210.2 10).bind fun bt212 => (if x9.length < 17592186044416 then (spec_l20Book.l1 k x1 x5 x7 x8 (x9 ++ [bt212.1]) (wrap64 (i7 + 1)) e6 bt212.2 o7 kv) else (none))) else (if x9.length < 17592186044416 then (spec_l20Book.l1 k x1 x5 x7 x8 (x9 ++ [0]) (wrap64 (i7 + 1)) e6 bt210.2 o7 kv) else (none))))) else (if kv.length < 5864062014805 then (spec_l20Book.l0 k x1 x5 x7 (wrap64 (x8 + 1)) e6 gl o7 (kv ++ [x9])) else (none))
end
def spec_l20Book.f (k : Nat) (bb : List Int) (dp : Int) (a1 : Int) : Option (List Int × (List (List Int)) × Int) := (some (([1, 2, 3, 3, 4, 4] : List Int) : List Int)).bind fun ic => ((spec_l20Rd_pick.f k bb dp 6).bind fun bt184 => (if 0 ≤ bt184.1 then (if bt184.1 < (ic.length : Int) then ((spec_l20Rd_pick.f k bb bt184.2 3).bind fun bt188 => (spec_l20Book.l0 k a1 (rd ic bt184.1) bt188.1 0 bb bt188.2 ([] : List Int) ([] : List (List Int)))) else (none)) else (none)))
theorem spec_l20Book.mq {p : Prop} (h : p := by
 repeat' first
 | (with_reducible exact ih0 _ _ _ _ _ _ _ _)
 | (with_reducible exact ih1 _ _ _ _ _ _ _ _ _ _)
 | (with_reducible exact spec_l20Rd_odd.mono _ _ _ _)
 | (with_reducible exact spec_l20Rd_pick.mono _ _ _ _)
 | (with_reducible exact LeO.refl _)
 | (with_reducible exact LeO.none _)
 | (with_reducible refine LeO.ite ?_ ?_)
 | (with_reducible refine LeO.bind ?_ (fun _ => ?_))
 | exact ih0 _ _ _ _ _ _ _ _
 | exact ih1 _ _ _ _ _ _ _ _ _ _
 | exact spec_l20Rd_odd.mono _ _ _ _
 | exact spec_l20Rd_pick.mono _ _ _ _
 | exact LeO.none _
 | refine LeO.ite ?_ ?_
 | refine LeO.bind ?_ (fun _ => ?_)) : p := h
theorem spec_l20Book.mono_l : ∀ k, (∀ y0 y1 y2 y3 y4 y5 y6 y7, LeO (spec_l20Book.l0 k y0 y1 y2 y3 y4 y5 y6 y7) (spec_l20Book.l0 (k + 1) y0 y1 y2 y3 y4 y5 y6 y7)) ∧ (∀ y0 y1 y2 y3 y4 y5 y6 y7 y8 y9, LeO (spec_l20Book.l1 k y0 y1 y2 y3 y4 y5 y6 y7 y8 y9) (spec_l20Book.l1 (k + 1) y0 y1 y2 y3 y4 y5 y6 y7 y8 y9))
 | 0 => ⟨fun _ _ _ _ _ _ _ _ r h => by simp [spec_l20Book.l0] at h, fun _ _ _ _ _ _ _ _ _ _ r h => by simp [spec_l20Book.l1] at h⟩
 | k + 1 => by
  obtain ⟨ih0, ih1⟩ := spec_l20Book.mono_l k
  refine ⟨?_, ?_⟩
  ·intro y0 y1 y2 y3 y4 y5 y6 y7
   unfold spec_l20Book.l0
   exact spec_l20Book.mq
  ·intro y0 y1 y2 y3 y4 y5 y6 y7 y8 y9
   unfold spec_l20Book.l1
   exact spec_l20Book.mq
theorem spec_l20Book.mono : ∀ a0 a1 a2 k, LeO (spec_l20Book.f k a0 a1 a2) (spec_l20Book.f (k + 1) a0 a1 a2) := by
 intro a0 a1 a2 k
 obtain ⟨ih0, ih1⟩ := spec_l20Book.mono_l k
 unfold spec_l20Book.f
 exact spec_l20Book.mq
def spec_l20Book.T7 : Bool × List (List Nat × List Nat) := (true, [([], []), ([0], [0]), ([], []), ([2], [2]), ([], []), ([4, 3], [4]), ([3, 5], [3, 5]), ([], []), ([6, 7], [6, 7]), ([8], [8]), ([9], [9]), ([1, 10, 5], [1, 10]), ([0, 1, 2, 3, 4, 5, 6, 7, 8, 9, 10, 11], []), ([12, 11, 11, 0, 1, 2, 3, 4, 5, 6, 7, 8, 9, 10, 11], [11, 12])])
def spec_l20Book.B7 : List Nat := [0, 1, 0, 4, 0, 28, 60, 0, 252, 508, 1020, 2047, 4095, 8191]
theorem spec_l20Book.tab7 : rtab .any (opsOf Try.f91 7) = spec_l20Book.T7 := by kernel_rfl
theorem spec_l20Book.bits7 : waitsOk spec_l20Book.T7.2 spec_l20Book.B7 = true := by kernel_rfl
def spec_l20Book.T19 : Bool × List (List Nat × List Nat) := (true, [([], []), ([0], [0]), ([], []), ([2], [2]), ([], []), ([4], [4]), ([], []), ([6], [6]), ([5, 7], [5, 7]), ([8], [8]), ([9], [9]), ([1, 3, 0, 1, 2, 3, 4, 5, 6, 7, 8, 9, 10], [1, 3]), ([11, 10, 0, 1, 2, 3, 4, 5, 6, 7, 8, 9, 10], [10, 11])])
def spec_l20Book.B19 : List Nat := [0, 1, 0, 4, 0, 16, 0, 64, 240, 496, 1008, 2047, 4095]
theorem spec_l20Book.tab19 : rtab .any (opsOf Try.f91 19) = spec_l20Book.T19 := by kernel_rfl
theorem spec_l20Book.bits19 : waitsOk spec_l20Book.T19.2 spec_l20Book.B19 = true := by kernel_rfl
theorem cc {p : Prop} (h : p := by repeat (first | (with_reducible first | exact HI0.out | apply IsS112.alloc | apply IsS112.drewN | apply IsS112.drew | apply IsS112.set_1 | refine IsS112.far ?_ ae0.out _ | refine IsS112.far ?_ yx.out _ | refine IsS112.far ?_ HN0_go84.out _) | exact HI0.out)) : p := h
theorem dd {p : Prop} (h : p := by repeat (first | (with_reducible first | exact HK.out | apply KeepBut.set_ | apply keep_drewN | apply keep_drew | apply keep_alloc | refine keep_far ?_ dz8.out _ | refine keep_far ?_ dz9.out _ | refine keep_far ?_ GB84.out _) | exact HK.out)) : p := h
theorem eb {p : Prop} (h : p := by repeat (first | (with_reducible first | exact HB.out | apply below_alloc | apply pw_below_drewN | apply below_drew1 | refine below_set ?_ (IsS112.ge HI0.out) | refine below_set ?_ ea0.out | refine below_set ?_ ea1.out | refine below_set ?_ (Nat.le_trans HL.out GB84.out)) | exact HB.out)) : p := h
set_option maxHeartbeats 8000000 in
set_option maxRecDepth 100000 in
theorem spec_l20Book.calls (k : Nat) (g : Nat) (bb : List Int) (dp : Int) (a1 : Int) (r1 : List Int) (r2 : List (List Int)) (r3 : Int) (w0 w : World) (hI : IsS112 w0 w g bb dp) (hB : Below w0.heap.size w0 w) (h : spec_l20Book.f k bb dp a1 = some (r1, r2, r3)) :
  Calls Try.prog 91 #[.pointer (some ⟨g, 0, none⟩), .int .i64 a1] w fun e w' => ∃ v0_ v1_ : Value, e = .returned (.agg #[v0_, v1_]) ∧ Kd.R (Kd.int .i64) 3 w' w.heap.size (fun k_ => (w.heap.size ≤ k_)) v0_ r1 ∧ Kd.V (Kd.slice 3 (Kd.int .i64)) 22 w' w.heap.size (fun k_ => (w.heap.size ≤ k_) ∧ some k_ ≠ (v0_ : Value).ownBlock) v1_ r2 ∧ IsS112 w0 w' g bb r3 ∧ Below w0.heap.size w0 w' ∧ KeepBut w w' g none := by
 have hu25 := Try.underlying25
 have HI0 := Aside0.mk hI
 have HK := Aside0.mk (KeepBut.refl w g none)
 have HL := Aside0.mk hB.size
 clear hI
 have HW0 := Aside0.mk hB.size
 have HB := Aside0.mk hB
 clear hB
 have H : ((some (([1, 2, 3, 3, 4, 4] : List Int) : List Int)).bind fun ic => ((spec_l20Rd_pick.f k bb dp 6).bind fun bt184 => (if 0 ≤ bt184.1 then (if bt184.1 < (ic.length : Int) then ((spec_l20Rd_pick.f k bb bt184.2 3).bind fun bt188 => (spec_l20Book.l0 k a1 (rd ic bt184.1) bt188.1 0 bb bt188.2 ([] : List Int) ([] : List (List Int)))) else (none)) else (none)))) = some (r1, r2, r3) := h
 clear h
 obtain ⟨ic, hy181⟩ : ∃ y_ : List Int, y_ = (([1, 2, 3, 3, 4, 4] : List Int)) := ⟨_, rfl⟩
 replace H : ((spec_l20Rd_pick.f k bb dp 6).bind fun bt184 => (if 0 ≤ bt184.1 then (if bt184.1 < (ic.length : Int) then ((spec_l20Rd_pick.f k bb bt184.2 3).bind fun bt188 => (spec_l20Book.l0 k a1 (rd ic bt184.1) bt188.1 0 bb bt188.2 ([] : List Int) ([] : List (List Int)))) else (none)) else (none))) = some (r1, r2, r3) := by first | (rw [hy181]; with_reducible exact H) | (have H2_ := (Option.bind_some _ _).symm.trans H; rw [hy181]; with_reducible exact H2_) | (have H2_ := (Option.bind_some _ _).symm.trans H; with_reducible exact H2_) | with_reducible exact H | (rw [hy181]; exact H) | exact H
 have cr9 := Aside0.mk hy181
 clear hy181
 replace H := Option.bind_eq_some_iff.mp H
 obtain ⟨⟨kw, am7⟩, ja, H⟩ := H
 try dsimp only at H
 have A3 := Aside0.mk ja
 clear ja
 obtain ⟨c4, H⟩ := pos_ H
 have i8 := decide_eq_true c4
 clear c4
 obtain ⟨c5, H⟩ := pos_ H
 have ev := decide_eq_true c5
 clear c5
 replace H := Option.bind_eq_some_iff.mp H
 obtain ⟨⟨iw, cs0⟩, A60, H⟩ := H
 try dsimp only at H
 have A6 := Aside0.mk A60
 clear A60
 have H' := Aside0.mk H
 clear H
 go_enter Try.func91, Try.ntmps91
 go_wp2_with (first | ((with_reducible refine gate_dst (N := 4) rfl ?_); refine bx_ (N := 4) #[.slice none 0 0, .slice none 0 0] 25 ?_; intro di hg w7 hbox hb; replace HB := Aside0.mk (below_step (eb) hb); have bu := Aside0.mk (hbox); have dz8 := Aside0.mk ((g59_ : w.heap.size ≤ di)); have ea0 := Aside0.mk ((Nat.le_trans HW0.out (g59_ : w.heap.size ≤ di) : w0.heap.size ≤ di)); replace HK := Aside0.mk (KeepBut.trans (dd) (KeepBut.of_below hb g none) (.inl rfl)); have ae0 := Aside0.mk ((by rw [hg]; exact Nat.ne_of_lt (IsS112.lt (show IsS112 w0 _ g bb dp from cc)) : g ≠ di)); have ix := Aside0.mk ((by rw [hg]; exact Nat.ne_of_gt (IsS112.lt (show IsS112 w0 _ g bb dp from cc)) : di ≠ g)); replace HI0 := Aside0.mk (IsS112.below (cc) hb); clear hb hbox hg) | ((with_reducible refine gate_dst (N := 12) rfl ?_); refine Kd.R_lit (Kd.int .i64) _ 3 ?hg (N := 12) ?hd (xs := ([1, 2, 3, 3, 4, 4] : List Int)) (inner := [.int .i64 1, .int .i64 2, .int .i64 3, .int .i64 3, .int .i64 4, .int .i64 4]) (ok := fun _ => True) (okp := fun _ => True) ?hr ?hp (fun _ hk => hk) trivial (Below.refl _ _) (Nat.le_refl _) (by simp) ?_; (case hd => rfl); (case hg => rfl); (case hr => first | (go_simp; done) | (go_simp; rfl)); (case hp => exact (Reps.one (show Kd.M (Kd.int .i64) _ _ _ 1 [.int .i64 1] from rfl) (Reps.one (show Kd.M (Kd.int .i64) _ _ _ 2 [.int .i64 2] from rfl) (Reps.one (show Kd.M (Kd.int .i64) _ _ _ 3 [.int .i64 3] from rfl) (Reps.one (show Kd.M (Kd.int .i64) _ _ _ 3 [.int .i64 3] from rfl) (Reps.one (show Kd.M (Kd.int .i64) _ _ _ 4 [.int .i64 4] from rfl) (Reps.one (show Kd.M (Kd.int .i64) _ _ _ 4 [.int .i64 4] from rfl) (Reps.none _ _)))))))); intro fk3 w8 kx hb hg_ hnew_; clear hg_ hnew_; (first | rw [← cr9.out] at kx | (simp only [Int.reduceToNat] at kx; rw [← cr9.out] at kx)); have vg := Aside0.mk (Kd.R_lower (Kd.R_newM (M := fun k_ => (w.heap.size ≤ k_)) kx (keep_size (w := w) (g := g) (row := none) (dd)) (fun k_ h_ => h_)) (keep_size (w := w) (g := g) (row := none) (dd))); replace bu := bb_ bu hb; replace HK := Aside0.mk (KeepBut.trans (dd) (KeepBut.of_below hb g none) (.inl rfl)); replace HB := Aside0.mk (below_step (eb) hb); replace HI0 := Aside0.mk (IsS112.below (cc) hb); clear hb kx) | ((with_reducible refine gate_callee (f := 70) rfl ?_); refine goesL_ (some 14) rfl rfl Try.func70 k_ rfl #[.pointer (some ⟨g, 0, none⟩), .int .i64 6] rfl (g3_) ?_; (with_reducible refine (spec_l20Rd_pick.calls k g bb dp 6 kw am7 w0 _ ?side1 ?side2 A3.out).mono ?_); (case side1 => exact cc); (case side2 => exact eb); rintro e o6 ⟨rfl, hi, hb, hk⟩; refine ⟨_, rfl, ?_⟩; replace bu := kb_ hk bu ix; replace vg := Aside0.mk (Kd.R_mono (Kd.R_keep (IsS112.apart (show IsS112 w0 _ g bb dp from cc) (uf1_ vg) (by decide)) hk (fun _ h => h.2)) (fun _ h => h.1)); replace HK := Aside0.mk (KeepBut.trans (dd) hk (.inl rfl)); replace HB := Aside0.mk (hb); replace HI0 := Aside0.mk (hi); (try clear hb); (try clear hk hi); obtain ⟨br, bn, qc⟩ := Kd.R_slice vg.out; subst qc; have am8 : 0 ≤ (kw : Int) := of_decide_eq_true (g0_); have am9 : kw < (ic.length : Int) := of_decide_eq_true (g0_); obtain ⟨fk4, ea2, cs1⟩ := Kd.at_int (Kd.R_reads' vg.out).2.2 kw am8 am9; cases ea2; replace am8 := eq_true am8; replace am9 := eq_true am9) | ((with_reducible refine gate_dst (N := 6) rfl ?_); refine bx_ (N := 6) #[.slice none 0 0, .slice none 0 0] 25 ?_; intro d0 hg o4 hbox hb; replace vg := Aside0.mk (Kd.R_below (uf1_ vg) hb); replace HB := Aside0.mk (below_step (eb) hb); have bo := Aside0.mk (hbox); have dz9 := Aside0.mk ((g59_ : w.heap.size ≤ d0)); have ea1 := Aside0.mk ((Nat.le_trans HW0.out (g59_ : w.heap.size ≤ d0) : w0.heap.size ≤ d0)); replace HK := Aside0.mk (KeepBut.trans (dd) (KeepBut.of_below hb g none) (.inl rfl)); have o9 := Aside0.mk ((by rw [hg]; exact Nat.ne_of_lt (blk_lt (g := di) (o := .cells #[.slice none 0 0, .slice none 0 0] 25 (0, 0)) (uf0_ bu)) : di ≠ d0)); have vh := Aside0.mk ((by rw [hg]; exact Nat.ne_of_gt (blk_lt (g := di) (o := .cells #[.slice none 0 0, .slice none 0 0] 25 (0, 0)) (uf0_ bu)) : d0 ≠ di)); replace bu := bb_ bu hb; have yx := Aside0.mk ((by rw [hg]; exact Nat.ne_of_lt (IsS112.lt (show IsS112 w0 _ g bb am7 from cc)) : g ≠ d0)); have iy := Aside0.mk ((by rw [hg]; exact Nat.ne_of_gt (IsS112.lt (show IsS112 w0 _ g bb am7 from cc)) : d0 ≠ g)); replace HI0 := Aside0.mk (IsS112.below (cc) hb); clear hb hbox hg; have bb2 := vh.out; have bb3 := o9.out; have ea3 := iy.out; have ea4 := yx.out; obtain ⟨yb, yc, yd, ye⟩ := blk2_ bo) | ((with_reducible refine gate_callee (f := 70) rfl ?_); refine goesL_ (some 19) rfl rfl Try.func70 k_ rfl #[.pointer (some ⟨g, 0, none⟩), .int .i64 3] rfl (g3_) ?_; (with_reducible refine (spec_l20Rd_pick.calls k g bb am7 3 iw cs0 w0 _ ?side1 ?side2 A6.out).mono ?_); (case side1 => exact cc); (case side2 => exact eb); rintro e tc ⟨rfl, hi, hb, hk⟩; refine ⟨_, rfl, ?_⟩; replace bu := Aside0.mk (KeepBut.blk hk (g' := di) (o := .cells #[.slice none 0 0, .slice none 0 0] 25 (0, 0)) (by (with_reducible repeat (first | refine blk_drewN ?_ _ | refine blk_drew ?_ | refine blk_alloc ?_ _)); refine blk_far ?_ o9.out _; refine blk_far ?_ o9.out _; exact uf0_ bu) ix.out (by simp)); replace vg := Aside0.mk (Kd.R_mono (Kd.R_keep (IsS112.apart (show IsS112 w0 _ g bb am7 from cc) (by (with_reducible repeat (first | apply Kd.R_alloc | apply Kd.R_drewN | apply Kd.R_drew)); exact (Kd.R_mono (Kd.R_far (p := ⟨d0, 1, none⟩) (Kd.R_far (p := ⟨d0, 0, none⟩) (Kd.R_types vg.out bo.out (by decide)) (fun _ hk => hk.2) (.slice none 0 0)) (fun _ hk => hk.2) (.slice none 0 0)) (fun _ h_ => h_.1))) (by decide)) hk (fun _ h => h.2)) (fun _ h => h.1)); replace bo := Aside0.mk (KeepBut.blk hk (g' := d0) (o := .cells #[.slice none 0 0, .slice none 0 0] 25 (0, 0)) (by (with_reducible repeat (first | refine blk_drewN ?_ _ | refine blk_drew ?_ | refine blk_alloc ?_ _)); refine blk_put (cs := #[.slice none 0 0, .slice none 0 0]) ?_ 1 _ rfl; refine blk_put (cs := #[.slice none 0 0, .slice none 0 0]) ?_ 0 _ rfl; exact uf0_ bo) iy.out (by simp)); replace HK := Aside0.mk (KeepBut.trans (dd) hk (.inl rfl)); replace HB := Aside0.mk (hb); replace HI0 := Aside0.mk (hi); (try clear hb); (try clear hk hi)))
 go_loopg [8] k (fun kq v8 w' => ∃ (dj : Int) (jb : Int) (ee : List Int) (ce : List (List Int)) (g7 : Value) (jp : Value), v8 = .int .i64 dj ∧ Aside0 (spec_l20Book.l0 kq a1 (rd ic kw) iw dj bb jb ee ce = some (r1, r2, r3)) ∧ Aside0 (kq ≤ k) ∧ Aside0 (Kd.R (Kd.int .i64) 3 w' w.heap.size (fun k_ => (w.heap.size ≤ k_)) g7 ee) ∧ Aside0 (Kd.S (Kd.slice 3 (Kd.int .i64)) 22 w' w.heap.size (fun k_ => (w.heap.size ≤ k_) ∧ some k_ ≠ (g7 : Value).ownBlock) jp ce) ∧ Aside0 (w'.heap[di]? = some (.cells #[(.slice none 0 0), (.slice none 0 0)] 25 (0, 0))) ∧ Aside0 (w'.heap[d0]? = some (.cells #[g7, jp] 25 (0, 0))) ∧ Aside0 (IsS112 w0 w' g bb jb) ∧ Aside0 (KeepBut w w' g none) ∧ Aside0 (Below w0.heap.size w0 w'))
 case atStart => exact ⟨(0), (cs0), (([] : List Int)), (([] : List (List Int))), (.slice none 0 0), (.slice none 0 0), (g2_), H', ⟨Nat.le_refl _⟩, ⟨g22_⟩, ⟨g20_⟩, ⟨uf0_ bu⟩, ⟨uf0_ bo⟩, ⟨cc⟩, ⟨dd⟩, ⟨eb⟩⟩
 case round =>
  clear H'
  try clear c1
  try clear p1
  try clear q1
  try clear va
  try clear p2
  try clear c4
  try clear i8
  try clear c5
  try clear ev
  try clear c7
  try clear c9
  try clear fu
  try clear f2
  try clear yb
  try clear yc
  try clear yd
  try clear ye
  try clear cs1
  try clear am8
  try clear am9
  obtain ⟨dj, jb, ee, ce, g7, jp, rfl, HA, HK1, b4, bx, bu, bo, HI0, HK, HB⟩ := hrel
  cases gk with
  | zero => exact absurd HA.out (by simp [spec_l20Book.l0])
  | succ k1 =>
   have H := HA.out
   clear HA
   simp only [spec_l20Book.l0] at H
   by_cases ep : dj < (rd ic kw)
   ·rw [if_pos ep] at H
    have o0 := decide_eq_true ep
    clear ep
    replace H := Option.bind_eq_some_iff.mp H
    obtain ⟨⟨ae1, bc5⟩, cs2, H⟩ := H
    try dsimp only at H
    have A18 := Aside0.mk cs2
    clear cs2
    replace H := Option.bind_eq_some_iff.mp H
    obtain ⟨⟨ae2, ae3⟩, cs3, H⟩ := H
    try dsimp only at H
    have A19 := Aside0.mk cs3
    clear cs3
    obtain ⟨o8, hy194⟩ : ∃ y_ : List Int, y_ = (([0, ae1, ae2] : List Int)) := ⟨_, rfl⟩
    replace H : (if 0 ≤ iw then (if iw < (o8.length : Int) then (if ee.length < 17592186044416 then (spec_l20Book.l1 k1 a1 (rd ic kw) iw dj (([] : List Int)) 0 bb ae3 (ee ++ [rd o8 iw]) ce) else (none)) else (none)) else (none)) = some (r1, r2, r3) := by first | (rw [hy194]; with_reducible exact H) | (have H2_ := (Option.bind_some _ _).symm.trans H; rw [hy194]; with_reducible exact H2_) | (have H2_ := (Option.bind_some _ _).symm.trans H; with_reducible exact H2_) | with_reducible exact H | (rw [hy194]; exact H) | exact H
    have bu8 := Aside0.mk hy194
    clear hy194
    obtain ⟨fk, H⟩ := pos_ H
    have xq := decide_eq_true fk
    clear fk
    obtain ⟨jq, H⟩ := pos_ H
    have bu9 := decide_eq_true jq
    clear jq
    obtain ⟨jc, H⟩ := pos_ H
    have ea5 := Aside0.mk jc
    clear jc
    obtain ⟨er, hy198⟩ : ∃ y_ : List Int, y_ = (ee ++ [rd o8 iw]) := ⟨_, rfl⟩
    replace H : (spec_l20Book.l1 k1 a1 (rd ic kw) iw dj (([] : List Int)) 0 bb ae3 er ce) = some (r1, r2, r3) := by first | (rw [hy198]; with_reducible exact H) | (have H2_ := (Option.bind_some _ _).symm.trans H; rw [hy198]; with_reducible exact H2_) | (have H2_ := (Option.bind_some _ _).symm.trans H; with_reducible exact H2_) | with_reducible exact H | (rw [hy198]; exact H) | exact H
    have ea6 := Aside0.mk hy198
    clear hy198
    obtain ⟨cs4, hy201⟩ : ∃ y_ : List Int, y_ = (([] : List Int)) := ⟨_, rfl⟩
    replace H : (spec_l20Book.l1 k1 a1 (rd ic kw) iw dj cs4 0 bb ae3 er ce) = some (r1, r2, r3) := by first | (rw [hy201]; with_reducible exact H) | (have H2_ := (Option.bind_some _ _).symm.trans H; rw [hy201]; with_reducible exact H2_) | (have H2_ := (Option.bind_some _ _).symm.trans H; with_reducible exact H2_) | with_reducible exact H | (rw [hy201]; exact H) | exact H
    have cs5 := Aside0.mk hy201
    clear hy201
    have H' := Aside0.mk H
    clear H
    try go_wp2
    have pi197 : (0 ≤ (iw : Int)) = True := eq_true (of_decide_eq_true (g0_))
    have qi197 : (iw < (o8.length : Int)) = True := eq_true (of_decide_eq_true (g0_))
    replace b4 := Aside0.mk (Kd.R_drew b4.out)
    replace bx := Aside0.mk (Kd.S_drew bx.out)
    replace bu := Aside0.mk (blk_drew bu.out)
    replace bo := Aside0.mk (blk_drew bo.out)
    replace HI0 := Aside0.mk (IsS112.drew HI0.out)
    replace HK := Aside0.mk (keep_drew HK.out)
    replace HB := Aside0.mk (below_drew1 HB.out)
    refine start_ (n := 14) (S := fun w' => w'.cell? ⟨d0, 0, none⟩ = some (g7) ∧ w'.cell? ⟨d0, 1, none⟩ = some (jp)) (ds := [13]) (tl_ 14 0) (g1_) rfl (g1_) ⟨(blk_cell bo.out 0).trans rfl, (blk_cell bo.out 1).trans rfl⟩ (fun hHeld => ?_); refine with_tabW spec_l20Book.tab7 spec_l20Book.bits7 (fun HT_ HW_ => ?_)
    generalize wr.drew = w23 at b4 bx bu bo HI0 HK HB hHeld ⊢
    refine pw_ 0 25 (tl_ 14 1) rfl rfl ?_
    refine pw_ 2 27 (tl_ 14 5) rfl rfl ?_
    refine pw_ 4 29 (tl_ 14 21) rfl rfl ?_
    refine pw_ 7 32 (tl_ 14 149) rfl rfl ?_
    refine tk0_ 1 26 (tl_ 14 151) rfl rfl hHeld ?_
    refine one_ (i := 3) (N := some 28) (tl_ 14 159) rfl rfl (one_of HT_.out (g1_)) (by decide) (fun K hK => ?_)
    refine goes_ Try.func70 (g1_) rfl #[.pointer (some ⟨g, 0, none⟩), .int .i64 4] (by rfl) rfl rfl (g3_) ?_
    with_reducible refine (spec_l20Rd_pick.calls k1 g bb jb 4 ae1 bc5 w0 _ ?side1 ?side2 A18.out).mono ?_
    (case side1 => exact cc)
    (case side2 => exact eb)
    rintro e w24 ⟨rfl, hi, hb, hk⟩
    refine ⟨_, rfl, ?_⟩
    replace b4 := Aside0.mk (Kd.R_mono (Kd.R_keep (IsS112.apart (show IsS112 w0 _ g bb jb from cc) (uf1_ b4) (by decide)) hk (fun _ h => h.2)) (fun _ h => h.1))
    replace bx := Aside0.mk (Kd.S_mono (Kd.S_keep (IsS112.apartS (show IsS112 w0 _ g bb jb from cc) (uf3_ bx) (by decide)) hk (fun _ h => h.2)) (fun _ h => h.1))
    replace bu := kb_ hk bu ix
    replace bo := kb_ hk bo iy
    replace HK := Aside0.mk (KeepBut.trans (dd) hk (.inl rfl))
    replace HB := Aside0.mk (hb)
    replace HI0 := Aside0.mk (hi)
    (try clear hb)
    (try clear hk hi)
    refine hK.out _ _ ⟨(blk_cell bo.out 0).trans rfl, (blk_cell bo.out 1).trans rfl⟩ (fun hHeld => ?_)
    clear hK K
    refine nm_ ?_
    refine one_ (i := 5) (N := some 30) (tl_ 14 191) rfl rfl (one_of HT_.out (g1_)) (by decide) (fun K hK => ?_)
    refine goes_ Try.func70 (g1_) rfl #[.pointer (some ⟨g, 0, none⟩), .int .i64 21] (by rfl) rfl rfl (g3_) ?_
    with_reducible refine (spec_l20Rd_pick.calls k1 g bb bc5 21 ae2 ae3 w0 _ ?side1 ?side2 A19.out).mono ?_
    (case side1 => exact cc)
    (case side2 => exact eb)
    rintro e pa ⟨rfl, hi, hb, hk⟩
    refine ⟨_, rfl, ?_⟩
    replace b4 := Aside0.mk (Kd.R_mono (Kd.R_keep (IsS112.apart (show IsS112 w0 _ g bb bc5 from cc) (uf1_ b4) (by decide)) hk (fun _ h => h.2)) (fun _ h => h.1))
    replace bx := Aside0.mk (Kd.S_mono (Kd.S_keep (IsS112.apartS (show IsS112 w0 _ g bb bc5 from cc) (uf3_ bx) (by decide)) hk (fun _ h => h.2)) (fun _ h => h.1))
    replace bu := kb_ hk bu ix
    replace bo := kb_ hk bo iy
    replace HK := Aside0.mk (KeepBut.trans (dd) hk (.inl rfl))
    replace HB := Aside0.mk (hb)
    replace HI0 := Aside0.mk (hi)
    (try clear hb)
    (try clear hk hi)
    refine hK.out _ _ ⟨(blk_cell bo.out 0).trans rfl, (blk_cell bo.out 1).trans rfl⟩ (fun hHeld => ?_)
    clear hK K
    refine nm_ ?_
    refine one_ (i := 6) (N := some 31) (tl_ 14 255) rfl rfl (one_of HT_.out (g1_)) (by decide) (fun K hK => ?_)
    refine Kd.R_lit_step (Kd.int .i64) _ 3 ?hg (N := 31) ?hd (xs := ([0, ae1, ae2] : List Int)) (inner := [.int .i64 0, .int .i64 ae1, .int .i64 ae2]) (ok := fun _ => True) (okp := fun _ => True) ?hr ?hp (fun _ hk => hk) trivial (Below.refl _ _) (Nat.le_refl _) (by simp) ?_; (case hd => rfl); (case hg => rfl); (case hr => first | (go_simp; done) | (go_simp; rfl)); (case hp => exact (Reps.one (show Kd.M (Kd.int .i64) _ _ _ 0 [.int .i64 0] from rfl) (Reps.one (show Kd.M (Kd.int .i64) _ _ _ ae1 [.int .i64 ae1] from rfl) (Reps.one (show Kd.M (Kd.int .i64) _ _ _ ae2 [.int .i64 ae2] from rfl) (Reps.none _ _)))))
    intro fk5 w26 iz hb hg_ hnew_
    clear hg_ hnew_
    (first | rw [← bu8.out] at iz | (simp only [Int.reduceToNat] at iz; rw [← bu8.out] at iz))
    replace bx := Aside0.mk (Kd.S_elder' (uf3_ bx) (Kd.R_base iz) hb)
    have tg := Aside0.mk (Kd.R_lower (Kd.R_new' (Kd.R_newM (M := fun k_ => (w.heap.size ≤ k_)) iz (keep_size (w := w) (g := g) (row := none) (dd)) (fun k_ h_ => h_)) (Kd.R_lt (uf1_ b4))) (keep_size (w := w) (g := g) (row := none) (dd)))
    replace b4 := Aside0.mk (Kd.R_elder' (uf1_ b4) (Kd.R_base iz) hb)
    replace bu := bb_ bu hb
    replace bo := bb_ bo hb
    replace HK := Aside0.mk (KeepBut.trans (dd) (KeepBut.of_below hb g none) (.inl rfl))
    replace HB := Aside0.mk (below_step (eb) hb)
    replace HI0 := Aside0.mk (IsS112.below (cc) hb)
    clear hb iz
    obtain ⟨bc6, ae4, bc7⟩ := Kd.R_slice tg.out
    subst bc7
    obtain ⟨ado28, ea7, _⟩ := Kd.at_int (Kd.R_reads' tg.out).2.2 0 (by decide) (by rw [bu8.out]; simp)
    cases ea7
    refine hK.out _ _ ⟨(blk_cell bo.out 0).trans rfl, (blk_cell bo.out 1).trans rfl⟩ (fun hHeld => ?_)
    clear hK K
    refine nm_ ?_
    refine pw_ 8 33 (tl_ 14 511) rfl rfl ?_
    refine one_ (i := 9) (N := some 34) (tl_ 14 1023) rfl rfl (one_of HT_.out (g1_)) (by decide) (fun K hK => ?_)
    (have cs6 : 0 ≤ (iw : Int) := of_decide_eq_true (g0_); have cs7 : iw < (o8.length : Int) := of_decide_eq_true (g0_); obtain ⟨ea8, ea9, cs8⟩ := Kd.at_int (Kd.R_reads' tg.out).2.2 iw cs6 cs7; obtain rfl : ado28 = ea8 := (by injection ea9))
    refine value_ (w1 := ?_) (v := ?_) (by rfl) rfl ?_ ?_
    rotate_left 2
    ·go_simp
     constructor
     ·rfl
     ·rfl
    clear cs8
    refine hK.out _ _ ⟨(blk_cell bo.out 0).trans rfl, (blk_cell bo.out 1).trans rfl⟩ (fun hHeld => ?_)
    clear hK K
    refine nm_ ?_
    refine one_ (i := 10) (N := some 35) (tl_ 14 2047) rfl rfl (one_of HT_.out (g1_)) (by decide) (fun K hK => ?_)
    refine value_ (w1 := ?_) (v := ?_) (by rfl) rfl ?_ ?_
    rotate_left 2
    ·go_simp
     constructor
     ·rfl
     ·rfl
    refine hK.out _ _ ⟨(blk_cell (blk_alloc bo.out _) 0).trans rfl, (blk_cell (blk_alloc bo.out _) 1).trans rfl⟩ (fun hHeld => ?_)
    clear hK K
    refine nm_ ?_
    refine one_ (i := 11) (N := some 36) (tl_ 14 4095) rfl rfl (one_of HT_.out (g1_)) (by decide) (fun K hK => ?_)
    refine Kd.R_append_step (Kd.int .i64) w.heap.size (by rfl) (.tmp 26) (.tmp 35) 22 3 (.int .i64 0) 8 rfl Try.underlying22 info3 rfl (by decide) (by omega) g7 ee (rd o8 iw) [.int .i64 (rd o8 iw)] (fun k_ => (w.heap.size ≤ k_) ∧ some k_ ≠ (.slice (some ado28) o8.length ae4 : Value).ownBlock) (fun _ => False) rfl rfl ?aP (fun _ hk => hk.elim) ?aF ?aO (Below.refl _ _) ?aS ?aL ?_
    (case aP => exact rfl)
    (case aF => exact (fun k_ hk => ⟨(Nat.le_trans (keep_size (w := w) (g := g) (row := none) (dd)) hk), Kd.fresh' (Kd.R_lt (uf1_ tg)) k_ hk⟩))
    (case aO => exact (uf1_ b4))
    (case aS => exact (keep_size (w := w) (g := g) (row := none) (dd)))
    (case aL => have := ea5.out; omega)
    intro fk6 w29 ho hb hg hat
    rw [← ea6.out] at ho
    replace bx := Aside0.mk (Kd.S_after (ok := (fun k_ => (w.heap.size ≤ k_) ∧ some k_ ≠ (.slice (some ado28) o8.length ae4 : Value).ownBlock)) (by (with_reducible repeat (first | apply Kd.S_alloc | apply Kd.S_drewN | apply Kd.S_drew)); exact Kd.S_mono bx.out (fun _ hk => ⟨⟨hk.1.1, hk.2⟩, hk.1.2⟩)) hg hat)
    replace bu := Aside0.mk (blk_grown (g := di) (o := .cells #[.slice none 0 0, .slice none 0 0] 25 (0, 0)) (uf0_ bu) hg (Kd.R_ne b4.out bu.out (by decide)))
    replace bo := Aside0.mk (blk_grown (g := d0) (o := .cells #[g7, jp] 25 (0, 0)) (uf0_ bo) hg (Kd.R_ne b4.out bo.out (by decide)))
    replace tg := Aside0.mk (Kd.R_after (ok := (fun k_ => (w.heap.size ≤ k_))) (by (with_reducible repeat (first | apply Kd.R_alloc | apply Kd.R_drewN | apply Kd.R_drew)); exact Kd.R_mono tg.out (fun _ hk => ⟨hk.1.1, hk.2⟩)) hg hat)
    replace HB := Aside0.mk (below_weaken (eb) HL.out hb)
    replace HI0 := Aside0.mk (IsS112.grown (cc) hg (IsS112.own_ne HI0.out b4.out (by decide)))
    replace HK := Aside0.mk (KeepBut.trans (dd) (KeepBut.of_grown hg g) (Kd.R_base2 b4.out))
    have an0 := Aside0.mk (ho)
    clear b4
    clear ho hb hg hat
    obtain ⟨ga, gb, cs9⟩ := Kd.R_slice an0.out
    (first | subst cs9 | (injection cs9 with f1_ f2_ f3_; have f4_ := f1_.symm; have f5_ := f3_.symm; clear f1_ f2_ f3_; subst f4_; subst f5_))
    refine hK.out _ _ ⟨(blk_cell bo.out 0).trans rfl, (blk_cell bo.out 1).trans rfl⟩ (fun hHeld => ?_)
    clear hK K
    refine nm_ ?_
    refine pw_ 12 37 (tl_ 14 8191) rfl rfl ?_
    refine last_ (i := 13) (N := none) (tl_ 14 16383) rfl rfl (one_of HT_.out (g1_)) (by decide) (fun K hK => ?_)
    have fk7 : w29.cell? ⟨d0, 0, none⟩ = some (g7) := (blk_cell bo.out 0).trans rfl
    have fk8 := blk_frozen bo.out 0
    have fk9 := o9.out
    have fl0 := vh.out
    refine skip_ (w1 := ?_) (by rfl) rfl ?_ ?_
    rotate_left
    ·go_simp
     rfl
    refine hK.out _ _ ?_
    clear hK K
    refine done_ (done_of HT_.out (g1_)) ?_
    try go_wp2_with (first | ((with_reducible refine gate_dst (N := 38) rfl ?_); refine Kd.R_lit (Kd.int .i64) _ 3 ?hg (N := 38) ?hd (xs := ([] : List Int)) (inner := []) (ok := fun _ => True) (okp := fun _ => True) ?hr ?hp (fun _ hk => hk) trivial (Below.refl _ _) (Nat.le_refl _) (by simp) ?_; (case hd => rfl); (case hg => rfl); (case hr => first | (go_simp; done) | (go_simp; rfl)); (case hp => exact (Reps.none _ _)); intro fl1 w32 vi hb hg_ hnew_; clear hg_ hnew_; (first | rw [← cs5.out] at vi | (simp only [Int.reduceToNat] at vi; rw [← cs5.out] at vi)); replace bx := Aside0.mk (Kd.S_elder' (by (with_reducible repeat (first | apply Kd.S_alloc | apply Kd.S_drewN | apply Kd.S_drew)); exact (Kd.S_mono (Kd.S_far (p := ⟨d0, 0, none⟩) (Kd.S_types bx.out bo.out (by decide)) (fun _ hk => hk.2) (.slice ga er.length gb)) (fun _ h_ => h_.1))) (Kd.R_base vi) hb); have eb0 := Aside0.mk (Kd.R_lower (Kd.R_new' (Kd.R_new' (Kd.R_newM (M := fun k_ => (w.heap.size ≤ k_)) vi (keep_size (w := w) (g := g) (row := none) (dd)) (fun k_ h_ => h_)) (Kd.R_lt (by (with_reducible repeat (first | apply Kd.R_alloc | apply Kd.R_drewN | apply Kd.R_drew)); exact (Kd.R_mono (Kd.R_far (p := ⟨d0, 0, none⟩) (Kd.R_types tg.out bo.out (by decide)) (fun _ hk => hk.2) (.slice ga er.length gb)) (fun _ h_ => h_.1))))) (Kd.R_lt (by (with_reducible repeat (first | apply Kd.R_alloc | apply Kd.R_drewN | apply Kd.R_drew)); exact (Kd.R_mono (Kd.R_far (p := ⟨d0, 0, none⟩) (Kd.R_types an0.out bo.out (by decide)) (fun _ hk => hk.2) (.slice ga er.length gb)) (fun _ h_ => h_.1))))) (keep_size (w := w) (g := g) (row := none) (dd))); replace tg := Aside0.mk (Kd.R_elder' (by (with_reducible repeat (first | apply Kd.R_alloc | apply Kd.R_drewN | apply Kd.R_drew)); exact (Kd.R_mono (Kd.R_far (p := ⟨d0, 0, none⟩) (Kd.R_types tg.out bo.out (by decide)) (fun _ hk => hk.2) (.slice ga er.length gb)) (fun _ h_ => h_.1))) (Kd.R_base vi) hb); replace an0 := Aside0.mk (Kd.R_elder' (by (with_reducible repeat (first | apply Kd.R_alloc | apply Kd.R_drewN | apply Kd.R_drew)); exact (Kd.R_mono (Kd.R_far (p := ⟨d0, 0, none⟩) (Kd.R_types an0.out bo.out (by decide)) (fun _ hk => hk.2) (.slice ga er.length gb)) (fun _ h_ => h_.1))) (Kd.R_base vi) hb); replace bu := Aside0.mk (blk_below (g := di) (o := .cells #[.slice none 0 0, .slice none 0 0] 25 (0, 0)) (by (with_reducible repeat (first | refine blk_drewN ?_ _ | refine blk_drew ?_ | refine blk_alloc ?_ _)); refine blk_far ?_ o9.out _; exact uf0_ bu) hb); replace bo := Aside0.mk (blk_below (g := d0) (o := .cells #[.slice ga er.length gb, jp] 25 (0, 0)) (by (with_reducible repeat (first | refine blk_drewN ?_ _ | refine blk_drew ?_ | refine blk_alloc ?_ _)); refine blk_put (cs := #[g7, jp]) ?_ 0 _ rfl; exact uf0_ bo) hb); replace HK := Aside0.mk (KeepBut.trans (dd) (KeepBut.of_below hb g none) (.inl rfl)); replace HB := Aside0.mk (below_step (eb) hb); replace HI0 := Aside0.mk (IsS112.below (show IsS112 w0 (w29.setCell ⟨d0, 0, none⟩ (.slice ga er.length gb)) g bb ae3 from cc) hb); clear hb vi))
    go_loopg [9, 10] k1 (fun kq v9 v10 w' => ∃ (g8 : List Int) (fv : Int) (mc : Int), v10 = .int .i64 fv ∧ Aside0 (spec_l20Book.l1 kq a1 (rd ic kw) iw dj g8 fv bb mc er ce = some (r1, r2, r3)) ∧ Aside0 (kq ≤ k1) ∧ Aside0 (Kd.R (Kd.int .i64) 3 w' w.heap.size (fun k_ => (w.heap.size ≤ k_) ∧ some k_ ≠ ((.slice ga er.length gb) : Value).ownBlock) v9 g8) ∧ Aside0 (Kd.R (Kd.int .i64) 3 w' w.heap.size (fun k_ => (w.heap.size ≤ k_) ∧ some k_ ≠ (v9 : Value).ownBlock) (.slice ga er.length gb) er) ∧ Aside0 (Kd.S (Kd.slice 3 (Kd.int .i64)) 22 w' w.heap.size (fun k_ => (w.heap.size ≤ k_) ∧ some k_ ≠ (v9 : Value).ownBlock ∧ some k_ ≠ ((.slice ga er.length gb) : Value).ownBlock) jp ce) ∧ Aside0 (w'.heap[di]? = some (.cells #[(.slice none 0 0), (.slice none 0 0)] 25 (0, 0))) ∧ Aside0 (w'.heap[d0]? = some (.cells #[(.slice ga er.length gb), jp] 25 (0, 0))) ∧ Aside0 (IsS112 w0 w' g bb mc) ∧ Aside0 (KeepBut w w' g none) ∧ Aside0 (Below w0.heap.size w0 w'))
    case atStart => exact ⟨(cs4), (0), (ae3), (g2_), H', ⟨Nat.le_refl _⟩, ⟨by (with_reducible repeat (first | apply Kd.R_alloc | apply Kd.R_drewN | apply Kd.R_drew)); exact Kd.R_mono eb0.out (fun _ hk => ⟨hk.1.1.1, hk.2⟩)⟩, ⟨by (with_reducible repeat (first | apply Kd.R_alloc | apply Kd.R_drewN | apply Kd.R_drew)); exact Kd.R_mono an0.out (fun _ hk => ⟨hk.1.1, hk.2⟩)⟩, ⟨by (with_reducible repeat (first | apply Kd.S_alloc | apply Kd.S_drewN | apply Kd.S_drew)); exact Kd.S_mono bx.out (fun _ hk => ⟨hk.1.1.1, ⟨hk.2, hk.1.2⟩⟩)⟩, ⟨uf0_ bu⟩, ⟨uf0_ bo⟩, ⟨cc⟩, ⟨dd⟩, ⟨eb⟩⟩
    case round =>
     clear H'
     try clear c1
     try clear p1
     try clear q1
     try clear va
     try clear qi1
     try clear c2
     try clear p2
     try clear c4
     try clear i8
     try clear c5
     try clear ev
     try clear c7
     try clear c9
     try clear fu
     try clear f2
     try clear ep
     try clear o0
     try clear p18
     try clear q18
     try clear fl2
     try clear p19
     try clear q19
     try clear fl3
     try clear qi19
     try clear fk
     try clear xq
     try clear jq
     try clear bu9
     try clear jc
     try clear yb
     try clear yc
     try clear yd
     try clear ye
     try clear cs1
     try clear cs8
     try clear p1
     try clear am8
     try clear cs6
     try clear p2
     try clear q1
     try clear am9
     try clear cs7
     obtain ⟨g8, fv, mc, rfl, HA, HK2, ex, b4, bx, bu, bo, HI0, HK, HB⟩ := hrel
     cases gk with
     | zero => exact absurd HA.out (by simp [spec_l20Book.l1])
     | succ k2 =>
      have H := HA.out
      clear HA
      simp only [spec_l20Book.l1] at H
      by_cases jr : fv < (rd ic kw)
      ·rw [if_pos jr] at H
       have bc8 := decide_eq_true jr
       clear jr
       by_cases g9 : dj = fv
       ·rw [if_pos g9] at H
        have an1 : (dj == fv) = true := beq_iff_eq.mpr g9
        have eb1 : (dj != fv) = false := bne_eq_false_iff_eq.mpr g9
        clear g9
        obtain ⟨ky, H⟩ := pos_ H
        have eb2 := Aside0.mk ky
        clear ky
        obtain ⟨ct0, hy207⟩ : ∃ y_ : List Int, y_ = (g8 ++ [0]) := ⟨_, rfl⟩
        replace H : (spec_l20Book.l1 k2 a1 (rd ic kw) iw dj ct0 (wrap64 (fv + 1)) bb mc er ce) = some (r1, r2, r3) := by first | (rw [hy207]; with_reducible exact H) | (have H2_ := (Option.bind_some _ _).symm.trans H; rw [hy207]; with_reducible exact H2_) | (have H2_ := (Option.bind_some _ _).symm.trans H; with_reducible exact H2_) | with_reducible exact H | (rw [hy207]; exact H) | exact H
        have eb3 := Aside0.mk hy207
        clear hy207
        have H' := Aside0.mk H
        clear H
        go_wp2_with (first | ((with_reducible refine gate_builtin (b := .append) (xs := #[.tmp 54, .tmp 56]) rfl ?_); at_builtin; refine Kd.R_append (Kd.int .i64) w.heap.size rfl (.tmp 54) (.tmp 56) 22 3 (.int .i64 0) 8 rfl Try.underlying22 info3 rfl (by decide) (by omega) u9 g8 0 [.int .i64 0] (fun k_ => (w.heap.size ≤ k_) ∧ some k_ ≠ (.slice ga er.length gb : Value).ownBlock) (fun _ => False) rfl rfl ?aP (fun _ hk => hk.elim) ?aF ?aO (Below.refl _ _) ?aS ?aL ?_; (case aP => exact rfl); (case aF => exact (fun k_ hk => ⟨(Nat.le_trans (keep_size (w := w) (g := g) (row := none) (dd)) hk), Kd.fresh' (Kd.R_lt (uf1_ b4)) k_ hk⟩)); (case aO => exact (uf1_ ex)); (case aS => exact (keep_size (w := w) (g := g) (row := none) (dd))); (case aL => have := eb2.out; omega); intro fl4 w37 ho hb hg hat; rw [← eb3.out] at ho; replace b4 := Aside0.mk (Kd.R_after (ok := (fun k_ => (w.heap.size ≤ k_))) (uf1_ b4) hg hat); replace bx := Aside0.mk (Kd.S_after (ok := (fun k_ => (w.heap.size ≤ k_) ∧ some k_ ≠ (.slice ga er.length gb : Value).ownBlock)) (g74_) hg hat); replace bu := Aside0.mk (blk_grown (g := di) (o := .cells #[.slice none 0 0, .slice none 0 0] 25 (0, 0)) (uf0_ bu) hg (Kd.R_ne ex.out bu.out (by decide))); replace bo := Aside0.mk (blk_grown (g := d0) (o := .cells #[.slice ga er.length gb, jp] 25 (0, 0)) (uf0_ bo) hg (Kd.R_ne ex.out bo.out (by decide))); replace HB := Aside0.mk (below_weaken (eb) HL.out hb); replace HI0 := Aside0.mk (IsS112.grown (cc) hg (IsS112.own_ne HI0.out ex.out (by decide))); replace HK := Aside0.mk (KeepBut.trans (dd) (KeepBut.of_grown hg g) (Kd.R_base2 ex.out)); have eb4 := Aside0.mk (ho); clear ex; clear ho hb hg hat))
        go_roundg k2
        case measure => have := HK1.out; have := HK2.out; omega
        case rel => exact ⟨(ct0), (wrap64 (fv + 1)), (mc), (g2_), H', ⟨g19_⟩, ⟨uf1_ eb4⟩, ⟨uf1_ b4⟩, ⟨g75_⟩, ⟨uf0_ bu⟩, ⟨uf0_ bo⟩, ⟨cc⟩, ⟨dd⟩, ⟨eb⟩⟩
       ·rw [if_neg g9] at H
        have an1 : (dj == fv) = false := beq_eq_false_iff_ne.mpr g9
        have eb1 : (dj != fv) = true := bne_iff_ne.mpr g9
        replace H := Option.bind_eq_some_iff.mp H
        obtain ⟨⟨bv0, vj⟩, ct1, H⟩ := H
        try dsimp only at H
        have A38 := Aside0.mk ct1
        clear ct1
        by_cases n8 : bv0 > 0
        ·rw [if_pos n8] at H
         have bv1 := decide_eq_true n8
         clear n8
         replace H := Option.bind_eq_some_iff.mp H
         obtain ⟨⟨bc9, bv2⟩, ct2, H⟩ := H
         try dsimp only at H
         have lq := Aside0.mk ct2
         clear ct2
         obtain ⟨gc, H⟩ := pos_ H
         have eb5 := Aside0.mk gc
         clear gc
         obtain ⟨ct3, hy214⟩ : ∃ y_ : List Int, y_ = (g8 ++ [bc9]) := ⟨_, rfl⟩
         replace H : (spec_l20Book.l1 k2 a1 (rd ic kw) iw dj ct3 (wrap64 (fv + 1)) bb bv2 er ce) = some (r1, r2, r3) := by first | (rw [hy214]; with_reducible exact H) | (have H2_ := (Option.bind_some _ _).symm.trans H; rw [hy214]; with_reducible exact H2_) | (have H2_ := (Option.bind_some _ _).symm.trans H; with_reducible exact H2_) | with_reducible exact H | (rw [hy214]; exact H) | exact H
         have eb6 := Aside0.mk hy214
         clear hy214
         have H' := Aside0.mk H
         clear H
         go_wp2_with (first | (go_at_call 70; (with_reducible refine (spec_l20Rd_pick.calls k2 g bb mc 3 bv0 vj w0 _ ?side1 ?side2 A38.out).mono ?_); (case side1 => exact cc); (case side2 => exact eb); rintro e w42 ⟨rfl, hi, hb, hk⟩; replace ex := Aside0.mk (Kd.R_mono (Kd.R_keep (IsS112.apart (show IsS112 w0 _ g bb mc from cc) (uf1_ ex) (by decide)) hk (fun _ h => h.2)) (fun _ h => h.1)); replace b4 := Aside0.mk (Kd.R_mono (Kd.R_keep (IsS112.apart (show IsS112 w0 _ g bb mc from cc) (uf1_ b4) (by decide)) hk (fun _ h => h.2)) (fun _ h => h.1)); replace bx := Aside0.mk (Kd.S_mono (Kd.S_keep (IsS112.apartS (show IsS112 w0 _ g bb mc from cc) (uf3_ bx) (by decide)) hk (fun _ h => h.2)) (fun _ h => h.1)); replace bu := kb_ hk bu ix; replace bo := kb_ hk bo iy; replace HK := Aside0.mk (KeepBut.trans (dd) hk (.inl rfl)); replace HB := Aside0.mk (hb); replace HI0 := Aside0.mk (hi); (try clear hb); (try clear hk hi)) | ((with_reducible refine gate_callee (f := 70) rfl ?_); refine goesL_ (some 53) rfl rfl Try.func70 k_ rfl #[.pointer (some ⟨g, 0, none⟩), .int .i64 10] rfl (g3_) ?_; (with_reducible refine (spec_l20Rd_pick.calls k2 g bb vj 10 bc9 bv2 w0 _ ?side1 ?side2 lq.out).mono ?_); (case side1 => exact cc); (case side2 => exact eb); rintro e w43 ⟨rfl, hi, hb, hk⟩; refine ⟨_, rfl, ?_⟩; replace ex := Aside0.mk (Kd.R_mono (Kd.R_keep (IsS112.apart (show IsS112 w0 _ g bb vj from cc) (uf1_ ex) (by decide)) hk (fun _ h => h.2)) (fun _ h => h.1)); replace b4 := Aside0.mk (Kd.R_mono (Kd.R_keep (IsS112.apart (show IsS112 w0 _ g bb vj from cc) (uf1_ b4) (by decide)) hk (fun _ h => h.2)) (fun _ h => h.1)); replace bx := Aside0.mk (Kd.S_mono (Kd.S_keep (IsS112.apartS (show IsS112 w0 _ g bb vj from cc) (uf3_ bx) (by decide)) hk (fun _ h => h.2)) (fun _ h => h.1)); replace bu := kb_ hk bu ix; replace bo := kb_ hk bo iy; replace HK := Aside0.mk (KeepBut.trans (dd) hk (.inl rfl)); replace HB := Aside0.mk (hb); replace HI0 := Aside0.mk (hi); (try clear hb); (try clear hk hi)) | ((with_reducible refine gate_builtin (b := .append) (xs := #[.tmp 54, .tmp 56]) rfl ?_); at_builtin; refine Kd.R_append (Kd.int .i64) w.heap.size rfl (.tmp 54) (.tmp 56) 22 3 (.int .i64 0) 8 rfl Try.underlying22 info3 rfl (by decide) (by omega) u9 g8 bc9 [.int .i64 bc9] (fun k_ => (w.heap.size ≤ k_) ∧ some k_ ≠ (.slice ga er.length gb : Value).ownBlock) (fun _ => False) rfl rfl ?aP (fun _ hk => hk.elim) ?aF ?aO (Below.refl _ _) ?aS ?aL ?_; (case aP => exact rfl); (case aF => exact (fun k_ hk => ⟨(Nat.le_trans (keep_size (w := w) (g := g) (row := none) (dd)) hk), Kd.fresh' (Kd.R_lt (uf1_ b4)) k_ hk⟩)); (case aO => exact (uf1_ ex)); (case aS => exact (keep_size (w := w) (g := g) (row := none) (dd))); (case aL => have := eb5.out; omega); intro fl5 w44 ho hb hg hat; rw [← eb6.out] at ho; replace b4 := Aside0.mk (Kd.R_after (ok := (fun k_ => (w.heap.size ≤ k_))) (uf1_ b4) hg hat); replace bx := Aside0.mk (Kd.S_after (ok := (fun k_ => (w.heap.size ≤ k_) ∧ some k_ ≠ (.slice ga er.length gb : Value).ownBlock)) (g74_) hg hat); replace bu := Aside0.mk (blk_grown (g := di) (o := .cells #[.slice none 0 0, .slice none 0 0] 25 (0, 0)) (uf0_ bu) hg (Kd.R_ne ex.out bu.out (by decide))); replace bo := Aside0.mk (blk_grown (g := d0) (o := .cells #[.slice ga er.length gb, jp] 25 (0, 0)) (uf0_ bo) hg (Kd.R_ne ex.out bo.out (by decide))); replace HB := Aside0.mk (below_weaken (eb) HL.out hb); replace HI0 := Aside0.mk (IsS112.grown (cc) hg (IsS112.own_ne HI0.out ex.out (by decide))); replace HK := Aside0.mk (KeepBut.trans (dd) (KeepBut.of_grown hg g) (Kd.R_base2 ex.out)); have eb7 := Aside0.mk (ho); clear ex; clear ho hb hg hat))
         go_roundg k2
         case measure => have := HK1.out; have := HK2.out; omega
         case rel => exact ⟨(ct3), (wrap64 (fv + 1)), (bv2), (g2_), H', ⟨g19_⟩, ⟨uf1_ eb7⟩, ⟨uf1_ b4⟩, ⟨g75_⟩, ⟨uf0_ bu⟩, ⟨uf0_ bo⟩, ⟨cc⟩, ⟨dd⟩, ⟨eb⟩⟩
        ·rw [if_neg n8] at H
         have bv1 := decide_eq_false n8
         clear n8
         obtain ⟨c45, H⟩ := pos_ H
         have bv3 := Aside0.mk c45
         clear c45
         obtain ⟨ct4, hy217⟩ : ∃ y_ : List Int, y_ = (g8 ++ [0]) := ⟨_, rfl⟩
         replace H : (spec_l20Book.l1 k2 a1 (rd ic kw) iw dj ct4 (wrap64 (fv + 1)) bb vj er ce) = some (r1, r2, r3) := by first | (rw [hy217]; with_reducible exact H) | (have H2_ := (Option.bind_some _ _).symm.trans H; rw [hy217]; with_reducible exact H2_) | (have H2_ := (Option.bind_some _ _).symm.trans H; with_reducible exact H2_) | with_reducible exact H | (rw [hy217]; exact H) | exact H
         have eb8 := Aside0.mk hy217
         clear hy217
         have H' := Aside0.mk H
         clear H
         go_wp2_with (first | (go_at_call 70; (with_reducible refine (spec_l20Rd_pick.calls k2 g bb mc 3 bv0 vj w0 _ ?side1 ?side2 A38.out).mono ?_); (case side1 => exact cc); (case side2 => exact eb); rintro e w46 ⟨rfl, hi, hb, hk⟩; replace ex := Aside0.mk (Kd.R_mono (Kd.R_keep (IsS112.apart (show IsS112 w0 _ g bb mc from cc) (uf1_ ex) (by decide)) hk (fun _ h => h.2)) (fun _ h => h.1)); replace b4 := Aside0.mk (Kd.R_mono (Kd.R_keep (IsS112.apart (show IsS112 w0 _ g bb mc from cc) (uf1_ b4) (by decide)) hk (fun _ h => h.2)) (fun _ h => h.1)); replace bx := Aside0.mk (Kd.S_mono (Kd.S_keep (IsS112.apartS (show IsS112 w0 _ g bb mc from cc) (uf3_ bx) (by decide)) hk (fun _ h => h.2)) (fun _ h => h.1)); replace bu := kb_ hk bu ix; replace bo := kb_ hk bo iy; replace HK := Aside0.mk (KeepBut.trans (dd) hk (.inl rfl)); replace HB := Aside0.mk (hb); replace HI0 := Aside0.mk (hi); (try clear hb); (try clear hk hi)) | ((with_reducible refine gate_builtin (b := .append) (xs := #[.tmp 54, .tmp 56]) rfl ?_); at_builtin; refine Kd.R_append (Kd.int .i64) w.heap.size rfl (.tmp 54) (.tmp 56) 22 3 (.int .i64 0) 8 rfl Try.underlying22 info3 rfl (by decide) (by omega) u9 g8 0 [.int .i64 0] (fun k_ => (w.heap.size ≤ k_) ∧ some k_ ≠ (.slice ga er.length gb : Value).ownBlock) (fun _ => False) rfl rfl ?aP (fun _ hk => hk.elim) ?aF ?aO (Below.refl _ _) ?aS ?aL ?_; (case aP => exact rfl); (case aF => exact (fun k_ hk => ⟨(Nat.le_trans (keep_size (w := w) (g := g) (row := none) (dd)) hk), Kd.fresh' (Kd.R_lt (uf1_ b4)) k_ hk⟩)); (case aO => exact (uf1_ ex)); (case aS => exact (keep_size (w := w) (g := g) (row := none) (dd))); (case aL => have := bv3.out; omega); intro fl6 w47 ho hb hg hat; rw [← eb8.out] at ho; replace b4 := Aside0.mk (Kd.R_after (ok := (fun k_ => (w.heap.size ≤ k_))) (uf1_ b4) hg hat); replace bx := Aside0.mk (Kd.S_after (ok := (fun k_ => (w.heap.size ≤ k_) ∧ some k_ ≠ (.slice ga er.length gb : Value).ownBlock)) (g74_) hg hat); replace bu := Aside0.mk (blk_grown (g := di) (o := .cells #[.slice none 0 0, .slice none 0 0] 25 (0, 0)) (uf0_ bu) hg (Kd.R_ne ex.out bu.out (by decide))); replace bo := Aside0.mk (blk_grown (g := d0) (o := .cells #[.slice ga er.length gb, jp] 25 (0, 0)) (uf0_ bo) hg (Kd.R_ne ex.out bo.out (by decide))); replace HB := Aside0.mk (below_weaken (eb) HL.out hb); replace HI0 := Aside0.mk (IsS112.grown (cc) hg (IsS112.own_ne HI0.out ex.out (by decide))); replace HK := Aside0.mk (KeepBut.trans (dd) (KeepBut.of_grown hg g) (Kd.R_base2 ex.out)); have eb9 := Aside0.mk (ho); clear ex; clear ho hb hg hat))
         go_roundg k2
         case measure => have := HK1.out; have := HK2.out; omega
         case rel => exact ⟨(ct4), (wrap64 (fv + 1)), (vj), (g2_), H', ⟨g19_⟩, ⟨uf1_ eb9⟩, ⟨uf1_ b4⟩, ⟨g75_⟩, ⟨uf0_ bu⟩, ⟨uf0_ bo⟩, ⟨cc⟩, ⟨dd⟩, ⟨eb⟩⟩
      ·rw [if_neg jr] at H
       have bc8 := decide_eq_false jr
       clear jr
       obtain ⟨c48, H⟩ := pos_ H
       have ec0 := Aside0.mk c48
       clear c48
       obtain ⟨an2, hy204⟩ : ∃ y_ : List (List Int), y_ = (ce ++ [g8]) := ⟨_, rfl⟩
       replace H : (spec_l20Book.l0 k2 a1 (rd ic kw) iw (wrap64 (dj + 1)) bb mc er an2) = some (r1, r2, r3) := by first | (rw [hy204]; with_reducible exact H) | (have H2_ := (Option.bind_some _ _).symm.trans H; rw [hy204]; with_reducible exact H2_) | (have H2_ := (Option.bind_some _ _).symm.trans H; with_reducible exact H2_) | with_reducible exact H | (rw [hy204]; exact H) | exact H
       have ec1 := Aside0.mk hy204
       clear hy204
       have H' := Aside0.mk H
       clear H
       have fl7 := vh.out
       have fl8 := o9.out
       have fl9 := iy.out
       have fm0 := yx.out
       obtain ⟨fm1, fm2, fm3, fm4⟩ := blk2_ bo
       obtain ⟨ct5, ct6, ec2⟩ := Kd.R_slice ex.out
       subst ec2
       go_wp2_with (first | ((with_reducible refine gate_builtin (b := .append) (xs := #[.tmp 59, .tmp 61]) rfl ?_); at_builtin; refine Kd.S_append (Kd.slice 3 (Kd.int .i64)) w.heap.size rfl (.tmp 59) (.tmp 61) 23 22 (.slice none 0 0) 24 rfl Try.underlying23 info22 rfl (by decide) (by omega) jp ce g8 [.slice ct5 g8.length ct6] (fun k_ => (w.heap.size ≤ k_) ∧ some k_ ≠ (.slice ga er.length gb : Value).ownBlock) (fun k_ => some k_ = (.slice ct5 g8.length ct6 : Value).ownBlock) rfl rfl ?aP (fun k_ hk_ => ((Kd.R_mono (ok' := fun k_ => ((fun k_ => (w.heap.size ≤ k_) ∧ some k_ ≠ (.slice ga er.length gb : Value).ownBlock)) k_ ∧ some k_ ≠ (jp : Value).ownBlock) (Kd.R_apart' (ex.out) (Kd.S_typed bx.out) (by decide)) (fun k_ hk => ⟨⟨hk.1.1, hk.1.2⟩, hk.2⟩))).1 k_ hk_.symm) ?aF ?aO (Below.refl _ _) ?aS ?aL ?_; (case aP => exact Kd.M_row (Kd.R_mono (Kd.R_tight rfl (Kd.R_mono (ok' := fun k_ => ((fun k_ => (w.heap.size ≤ k_) ∧ some k_ ≠ (.slice ga er.length gb : Value).ownBlock)) k_ ∧ some k_ ≠ (jp : Value).ownBlock) (Kd.R_apart' (ex.out) (Kd.S_typed bx.out) (by decide)) (fun k_ hk => ⟨⟨hk.1.1, hk.1.2⟩, hk.2⟩))) (fun _ h_ => h_))); (case aF => exact (fun k_ hk => ⟨(Nat.le_trans (keep_size (w := w) (g := g) (row := none) (dd)) hk), Kd.fresh' (Kd.R_lt (uf1_ b4)) k_ hk⟩)); (case aO => exact (by (with_reducible repeat (first | apply Kd.S_alloc | apply Kd.S_drewN | apply Kd.S_drew)); exact Kd.S_mono bx.out (fun k_ hk => ⟨⟨hk.1, hk.2.2⟩, fun e_ => hk.2.1 e_⟩))); (case aS => exact (keep_size (w := w) (g := g) (row := none) (dd))); (case aL => have := ec0.out; omega); intro fm5 w52 ho hb hg hat; rw [← ec1.out] at ho; replace b4 := Aside0.mk (Kd.R_over' (uf1_ b4) (Kd.S_typed (uf3_ bx)) (by decide) hg); replace bu := Aside0.mk (blk_grown (g := di) (o := .cells #[.slice none 0 0, .slice none 0 0] 25 (0, 0)) (uf0_ bu) hg (Kd.S_ne bx.out bu.out (by decide))); replace bo := Aside0.mk (blk_grown (g := d0) (o := .cells #[.slice ga er.length gb, jp] 25 (0, 0)) (uf0_ bo) hg (Kd.S_ne bx.out bo.out (by decide))); replace HB := Aside0.mk (below_weaken (eb) HL.out hb); replace HI0 := Aside0.mk (IsS112.grown (cc) hg (IsS112.own_neS HI0.out bx.out (by decide))); replace HK := Aside0.mk (KeepBut.trans (dd) (KeepBut.of_grown hg g) (Kd.S_base2 bx.out)); have ct7 := Aside0.mk (ho); clear bx ex; clear ho hb hg hat; obtain ⟨bv4, bv5, ec3⟩ := Kd.S_slice ct7.out; subst ec3; obtain ⟨fm6, fm7, fm8, fm9⟩ := blk2_ bo))
       go_roundg k2
       case measure => have := HK1.out; have := HK2.out; omega
       case rel => exact ⟨(wrap64 (dj + 1)), (mc), (er), (an2), (.slice ga er.length gb), (.slice bv4 an2.length bv5), (g2_), H', ⟨g19_⟩, ⟨by (with_reducible repeat (first | apply Kd.R_alloc | apply Kd.R_drewN | apply Kd.R_drew)); exact Kd.R_mono (Kd.R_far (p := ⟨d0, 1, none⟩) (Kd.R_types b4.out bo.out (by decide)) (fun _ hk => hk.2) (.slice bv4 an2.length bv5)) (fun _ hk => hk.1.1)⟩, ⟨by (with_reducible repeat (first | apply Kd.S_alloc | apply Kd.S_drewN | apply Kd.S_drew)); exact Kd.S_mono (Kd.S_far (p := ⟨d0, 1, none⟩) (Kd.S_types ct7.out bo.out (by decide)) (fun _ hk => hk.2) (.slice bv4 an2.length bv5)) (fun _ hk => ⟨hk.1.1, hk.1.2⟩)⟩, ⟨by (with_reducible repeat (first | refine blk_drewN ?_ _ | refine blk_drew ?_ | refine blk_alloc ?_ _)); refine blk_far ?_ o9.out _; exact uf0_ bu⟩, ⟨by (with_reducible repeat (first | refine blk_drewN ?_ _ | refine blk_drew ?_ | refine blk_alloc ?_ _)); refine blk_put (cs := #[.slice ga er.length gb, jp]) ?_ 1 _ rfl; exact uf0_ bo⟩, ⟨cc⟩, ⟨dd⟩, ⟨eb⟩⟩
   ·rw [if_neg ep] at H
    have o0 := decide_eq_false ep
    clear ep
    replace H := Option.bind_eq_some_iff.mp H
    obtain ⟨⟨ec4, lr⟩, ct8, H⟩ := H
    try dsimp only at H
    have A56 := Aside0.mk ct8
    clear ct8
    by_cases th : ec4 = true
    ·subst th
     replace H := ifp_ H
     replace H := Option.bind_eq_some_iff.mp H
     obtain ⟨⟨js, qd⟩, ct9, H⟩ := H
     try dsimp only at H
     have rx := Aside0.mk ct9
     clear ct9
     by_cases yy : js = 0
     ·rw [if_pos yy] at H
      have ec5 : (js == 0) = true := beq_iff_eq.mpr yy
      have ec6 : (js != 0) = false := bne_eq_false_iff_eq.mpr yy
      clear yy
      simp only [Option.some.injEq, Prod.mk.injEq] at H
      obtain ⟨rfl, rfl, rfl⟩ := H
      go_wp2_with (first | ((with_reducible refine gate_callee (f := 106) rfl ?_); refine goesL_ (some 66) rfl rfl Try.func106 k_ rfl #[.pointer (some ⟨g, 0, none⟩), .int .i64 a1] rfl (g3_) ?_; (with_reducible refine (spec_l20Rd_odd.calls k1 g bb jb a1 true lr w0 _ ?side1 ?side2 A56.out).mono ?_); (case side1 => exact cc); (case side2 => exact eb); rintro e w60 ⟨rfl, hi, hb, hk⟩; refine ⟨_, rfl, ?_⟩; replace b4 := Aside0.mk (Kd.R_mono (Kd.R_keep (IsS112.apart (show IsS112 w0 _ g bb jb from cc) (uf1_ b4) (by decide)) hk (fun _ h => h.2)) (fun _ h => h.1)); replace bx := Aside0.mk (Kd.S_mono (Kd.S_keep (IsS112.apartS (show IsS112 w0 _ g bb jb from cc) (uf3_ bx) (by decide)) hk (fun _ h => h.2)) (fun _ h => h.1)); replace bu := kb_ hk bu ix; replace bo := kb_ hk bo iy; replace HK := Aside0.mk (KeepBut.trans (dd) hk (.inl rfl)); replace HB := Aside0.mk (hb); replace HI0 := Aside0.mk (hi); (try clear hb); (try clear hk hi)) | ((with_reducible refine gate_callee (f := 70) rfl ?_); refine goesL_ (some 68) rfl rfl Try.func70 k_ rfl #[.pointer (some ⟨g, 0, none⟩), .int .i64 4] rfl (g3_) ?_; (with_reducible refine (spec_l20Rd_pick.calls k1 g bb lr 4 js qd w0 _ ?side1 ?side2 rx.out).mono ?_); (case side1 => exact cc); (case side2 => exact eb); rintro e w61 ⟨rfl, hi, hb, hk⟩; refine ⟨_, rfl, ?_⟩; replace b4 := Aside0.mk (Kd.R_mono (Kd.R_keep (IsS112.apart (show IsS112 w0 _ g bb lr from cc) (uf1_ b4) (by decide)) hk (fun _ h => h.2)) (fun _ h => h.1)); replace bx := Aside0.mk (Kd.S_mono (Kd.S_keep (IsS112.apartS (show IsS112 w0 _ g bb lr from cc) (uf3_ bx) (by decide)) hk (fun _ h => h.2)) (fun _ h => h.1)); replace bu := kb_ hk bu ix; replace bo := kb_ hk bo iy; replace HK := Aside0.mk (KeepBut.trans (dd) hk (.inl rfl)); replace HB := Aside0.mk (hb); replace HI0 := Aside0.mk (hi); (try clear hb); (try clear hk hi); have fn0 := o9.out; have fn1 := vh.out; have fn2 := ix.out; have fn3 := ae0.out; obtain ⟨fn4, fn5, fn6, fn7⟩ := blk2_ bu))
      refine bodyPost_ret (results_cell_row rfl _ _ di 25 #[.slice none 0 0, .slice none 0 0] (0, 0) _ rfl (by (with_reducible repeat (first | refine blk_drewN ?_ _ | refine blk_drew ?_ | refine blk_alloc ?_ _)); refine blk_put (cs := #[.slice none 0 0, .slice none 0 0]) ?_ 1 _ rfl; refine blk_put (cs := #[.slice none 0 0, .slice none 0 0]) ?_ 0 _ rfl; exact uf0_ bu) Try.underlying25 rfl (g1_)) rfl ?_
      exact ⟨_, _, g4_, g22_, Kd.V_nil _ _ _ _ _, cc, eb, dd⟩
     ·rw [if_neg yy] at H
      have ec5 : (js == 0) = false := beq_eq_false_iff_ne.mpr yy
      have ec6 : (js != 0) = true := bne_iff_ne.mpr yy
      by_cases yz : js = 1
      ·rw [if_pos yz] at H
       have ec7 : (js == 1) = true := beq_iff_eq.mpr yz
       have ec8 : (js != 1) = false := bne_eq_false_iff_eq.mpr yz
       clear yz
       obtain ⟨c66, H⟩ := pos_ H
       have fn8 := decide_eq_true c66
       have fn9 : decide (0 < ee.length) = true := decide_eq_true (by omega)
       clear c66
       obtain ⟨cu0, hy224⟩ : ∃ y_ : List Int, y_ = (ee.set (0 : Int).toNat (-1)) := ⟨_, rfl⟩
       replace H : (some (cu0, ce, qd)) = some (r1, r2, r3) := by first | (rw [hy224]; with_reducible exact H) | (have H2_ := (Option.bind_some _ _).symm.trans H; rw [hy224]; with_reducible exact H2_) | (have H2_ := (Option.bind_some _ _).symm.trans H; with_reducible exact H2_) | with_reducible exact H | (rw [hy224]; exact H) | exact H
       have ec9 := Aside0.mk hy224
       clear hy224
       simp only [Option.some.injEq, Prod.mk.injEq] at H
       obtain ⟨rfl, rfl, rfl⟩ := H
       go_wp2_with (first | ((with_reducible refine gate_callee (f := 106) rfl ?_); refine goesL_ (some 66) rfl rfl Try.func106 k_ rfl #[.pointer (some ⟨g, 0, none⟩), .int .i64 a1] rfl (g3_) ?_; (with_reducible refine (spec_l20Rd_odd.calls k1 g bb jb a1 true lr w0 _ ?side1 ?side2 A56.out).mono ?_); (case side1 => exact cc); (case side2 => exact eb); rintro e w68 ⟨rfl, hi, hb, hk⟩; refine ⟨_, rfl, ?_⟩; replace b4 := Aside0.mk (Kd.R_mono (Kd.R_keep (IsS112.apart (show IsS112 w0 _ g bb jb from cc) (uf1_ b4) (by decide)) hk (fun _ h => h.2)) (fun _ h => h.1)); replace bx := Aside0.mk (Kd.S_mono (Kd.S_keep (IsS112.apartS (show IsS112 w0 _ g bb jb from cc) (uf3_ bx) (by decide)) hk (fun _ h => h.2)) (fun _ h => h.1)); replace bu := kb_ hk bu ix; replace bo := kb_ hk bo iy; replace HK := Aside0.mk (KeepBut.trans (dd) hk (.inl rfl)); replace HB := Aside0.mk (hb); replace HI0 := Aside0.mk (hi); (try clear hb); (try clear hk hi)) | ((with_reducible refine gate_callee (f := 70) rfl ?_); refine goesL_ (some 68) rfl rfl Try.func70 k_ rfl #[.pointer (some ⟨g, 0, none⟩), .int .i64 4] rfl (g3_) ?_; (with_reducible refine (spec_l20Rd_pick.calls k1 g bb lr 4 js qd w0 _ ?side1 ?side2 rx.out).mono ?_); (case side1 => exact cc); (case side2 => exact eb); rintro e w69 ⟨rfl, hi, hb, hk⟩; refine ⟨_, rfl, ?_⟩; replace b4 := Aside0.mk (Kd.R_mono (Kd.R_keep (IsS112.apart (show IsS112 w0 _ g bb lr from cc) (uf1_ b4) (by decide)) hk (fun _ h => h.2)) (fun _ h => h.1)); replace bx := Aside0.mk (Kd.S_mono (Kd.S_keep (IsS112.apartS (show IsS112 w0 _ g bb lr from cc) (uf3_ bx) (by decide)) hk (fun _ h => h.2)) (fun _ h => h.1)); replace bu := kb_ hk bu ix; replace bo := kb_ hk bo iy; replace HK := Aside0.mk (KeepBut.trans (dd) hk (.inl rfl)); replace HB := Aside0.mk (hb); replace HI0 := Aside0.mk (hi); (try clear hb); (try clear hk hi); have fo0 := vh.out; have fo1 := o9.out; have fo2 := iy.out; have fo3 := yx.out; obtain ⟨ae5, ae6, ae7, ae8⟩ := blk2_ bo; have p67 : 0 ≤ (0 : Int) := (by omega); have q67 : (0 : Int) < ((ee.length : Int) : Int) := of_decide_eq_true (g0_); have qi67 : (0 < ee.length) = True := eq_true (by omega); obtain ⟨ry, vk, cu1, cu2, gl67, cl67, HG67⟩ := Kd.R_form b4.out (by omega); (first | cases cu1 | (injection cu1 with ea_ en_ ec_; (first | subst ea_ | (injection ea_ with ea_; subst ea_)); subst ec_; clear en_)); have GB67 := Aside0.mk cu2; have GG67 := Aside0.mk HG67; clear cu2 gl67 HG67; obtain ⟨cu3, hf67_0⟩ := Kd.R_celln 0 b4.out (0 : Int) p67 q67; (try rw [show ((0 : Int)).toNat = 0 from rfl] at cu3); (try simp only [Nat.reduceMul, Nat.zero_mul, Nat.zero_add, Nat.reduceAdd] at cu3); (try rw [show ((0 : Int)).toNat = 0 from rfl] at hf67_0); (try simp only [Nat.reduceMul, Nat.zero_mul, Nat.zero_add, Nat.reduceAdd] at hf67_0); replace p67 := eq_true p67; replace q67 := eq_true q67; obtain ⟨hy73_, hz73_⟩ := Kd.R_celln 0 b4.out (0 : Int) (by omega) (of_decide_eq_true (g0_)); (try simp only [Int.reduceToNat, Int.toNat_zero, Int.toNat_ofNat, Nat.reduceMul, Nat.zero_mul, Nat.zero_add] at hy73_ hz73_); (try rw [show ((0 : Int)).toNat = 0 from rfl] at hy73_); (try rw [show ((0 : Int)).toNat = 0 from rfl] at hz73_); have HP73 := Kd.R_putg b4.out (0 : Int) (-1)) | ((with_reducible refine gate_store (t := 3) (p := 88) rfl ?_); refine store_event (t := 3) (p := 88) (v := ?vo_w74) (w1 := (w69.setCell ⟨ry, (0 : Int).toNat, none⟩ (.int .i64 (-1)))) ?hg ?ho ?hn ?hr ?_; (case ho => rfl); (case hg => rfl); (case hn => rfl); (case hr => first | (go_simp; done) | (go_simp; rfl)); intro w74 hw; have hg : w69.grownBy w74 (some ry) := (by rw [hw]; exact HP73.2); have hp_ : Kd.R (Kd.int .i64) 3 w74 w.heap.size (fun k_ => (w.heap.size ≤ k_)) (.slice (some ⟨ry, 0, none⟩) ee.length vk) cu0 := (by rw [hw, ec9.out]; exact HP73.1); clear HP73; replace bx := Aside0.mk (Kd.S_after (v := (.slice (some ⟨ry, 0, none⟩) ee.length vk)) (v1 := (.slice (some ⟨ry, 0, none⟩) ee.length vk)) (ok := (fun k_ => (w.heap.size ≤ k_))) (uf3_ bx) hg (.inl rfl)); replace bu := Aside0.mk (blk_grown (g := di) (o := .cells #[.slice none 0 0, .slice none 0 0] 25 (0, 0)) (uf0_ bu) hg (Kd.R_ne b4.out bu.out (by decide))); replace bo := Aside0.mk (blk_grown (g := d0) (o := .cells #[.slice (some ⟨ry, 0, none⟩) ee.length vk, jp] 25 (0, 0)) (uf0_ bo) hg (Kd.R_ne b4.out bo.out (by decide))); replace HI0 := Aside0.mk (IsS112.grown (cc) hg (IsS112.own_ne HI0.out b4.out (by decide))); replace HB := Aside0.mk ((by rw [hw]; exact below_set (HB.out) (Nat.le_trans HL.out GB67.out) : Below w0.heap.size w0 w74)); replace HK := Aside0.mk (KeepBut.trans (dd) (KeepBut.of_grown hg g) (Kd.R_base2 b4.out)); replace b4 := Aside0.mk (hp_); clear hg hw hp_; obtain ⟨fo4, fo5, fo6, fo7⟩ := blk2_ bo; have ed0 := ix.out; have ed1 := ae0.out; obtain ⟨bd0, bd1, bd2, bd3⟩ := blk2_ bu; obtain ⟨an3, an4, bd4⟩ := Kd.S_slice bx.out; subst bd4))
       refine bodyPost_ret (results_cell_row rfl _ _ di 25 #[.slice (some ⟨ry, 0, none⟩) ee.length vk, .slice an3 ce.length an4] (0, 0) _ rfl (by (with_reducible repeat (first | refine blk_drewN ?_ _ | refine blk_drew ?_ | refine blk_alloc ?_ _)); refine blk_put (cs := #[.slice (some ⟨ry, 0, none⟩) ee.length vk, .slice none 0 0]) ?_ 1 _ rfl; refine blk_put (cs := #[.slice none 0 0, .slice none 0 0]) ?_ 0 _ rfl; exact uf0_ bu) Try.underlying25 rfl (g1_)) rfl ?_
       exact ⟨_, _, g4_, by (with_reducible repeat (first | apply Kd.R_alloc | apply Kd.R_drewN | apply Kd.R_drew)); exact Kd.R_mono (Kd.R_far (p := ⟨di, 1, none⟩) (Kd.R_far (p := ⟨di, 0, none⟩) (Kd.R_types b4.out bu.out (by decide)) (fun _ hk => hk.2) (.slice (some ⟨ry, 0, none⟩) ee.length vk)) (fun _ hk => hk.2) (.slice an3 ce.length an4)) (fun _ hk => hk.1), Kd.S_V (by (with_reducible repeat (first | apply Kd.S_alloc | apply Kd.S_drewN | apply Kd.S_drew)); exact Kd.S_mono (Kd.S_far (p := ⟨di, 1, none⟩) (Kd.S_far (p := ⟨di, 0, none⟩) (Kd.S_types bx.out bu.out (by decide)) (fun _ hk => hk.2) (.slice (some ⟨ry, 0, none⟩) ee.length vk)) (fun _ hk => hk.2) (.slice an3 ce.length an4)) (fun _ hk => ⟨hk.1.1, hk.1.2⟩)), cc, eb, dd⟩
      ·rw [if_neg yz] at H
       have ec7 : (js == 1) = false := beq_eq_false_iff_ne.mpr yz
       have ec8 : (js != 1) = true := bne_iff_ne.mpr yz
       by_cases nc : js = 2
       ·rw [if_pos nc] at H
        have ed2 : (js == 2) = true := beq_iff_eq.mpr nc
        have ed3 : (js != 2) = false := bne_eq_false_iff_eq.mpr nc
        clear nc
        obtain ⟨rz, H⟩ := pos_ H
        have bv6 := decide_eq_true rz
        have fo8 : decide (0 < ce.length) = true := decide_eq_true (by omega)
        clear rz
        obtain ⟨c81, H⟩ := pos_ H
        have ed4 := decide_eq_true c81
        have fo9 : decide (0 < (rd_L1 ce 0).length) = true := decide_eq_true (by omega)
        clear c81
        obtain ⟨fg, hy226⟩ : ∃ y_ : List Int, y_ = ((rd_L1 ce 0).set (0 : Int).toNat 1) := ⟨_, rfl⟩
        replace H : (some (ee, (ce.set (0 : Int).toNat fg), qd)) = some (r1, r2, r3) := by first | (rw [hy226]; with_reducible exact H) | (have H2_ := (Option.bind_some _ _).symm.trans H; rw [hy226]; with_reducible exact H2_) | (have H2_ := (Option.bind_some _ _).symm.trans H; with_reducible exact H2_) | with_reducible exact H | (rw [hy226]; exact H) | exact H
        have bd5 := Aside0.mk hy226
        clear hy226
        obtain ⟨cu4, hy228⟩ : ∃ y_ : List (List Int), y_ = (ce.set (0 : Int).toNat fg) := ⟨_, rfl⟩
        replace H : (some (ee, cu4, qd)) = some (r1, r2, r3) := by first | (rw [hy228]; with_reducible exact H) | (have H2_ := (Option.bind_some _ _).symm.trans H; rw [hy228]; with_reducible exact H2_) | (have H2_ := (Option.bind_some _ _).symm.trans H; with_reducible exact H2_) | with_reducible exact H | (rw [hy228]; exact H) | exact H
        have ed5 := Aside0.mk hy228
        clear hy228
        simp only [Option.some.injEq, Prod.mk.injEq] at H
        obtain ⟨rfl, rfl, rfl⟩ := H
        go_wp2_with (first | ((with_reducible refine gate_callee (f := 106) rfl ?_); refine goesL_ (some 66) rfl rfl Try.func106 k_ rfl #[.pointer (some ⟨g, 0, none⟩), .int .i64 a1] rfl (g3_) ?_; (with_reducible refine (spec_l20Rd_odd.calls k1 g bb jb a1 true lr w0 _ ?side1 ?side2 A56.out).mono ?_); (case side1 => exact cc); (case side2 => exact eb); rintro e w83 ⟨rfl, hi, hb, hk⟩; refine ⟨_, rfl, ?_⟩; replace b4 := Aside0.mk (Kd.R_mono (Kd.R_keep (IsS112.apart (show IsS112 w0 _ g bb jb from cc) (uf1_ b4) (by decide)) hk (fun _ h => h.2)) (fun _ h => h.1)); replace bx := Aside0.mk (Kd.S_mono (Kd.S_keep (IsS112.apartS (show IsS112 w0 _ g bb jb from cc) (uf3_ bx) (by decide)) hk (fun _ h => h.2)) (fun _ h => h.1)); replace bu := kb_ hk bu ix; replace bo := kb_ hk bo iy; replace HK := Aside0.mk (KeepBut.trans (dd) hk (.inl rfl)); replace HB := Aside0.mk (hb); replace HI0 := Aside0.mk (hi); (try clear hb); (try clear hk hi)) | ((with_reducible refine gate_callee (f := 70) rfl ?_); refine goesL_ (some 68) rfl rfl Try.func70 k_ rfl #[.pointer (some ⟨g, 0, none⟩), .int .i64 4] rfl (g3_) ?_; (with_reducible refine (spec_l20Rd_pick.calls k1 g bb lr 4 js qd w0 _ ?side1 ?side2 rx.out).mono ?_); (case side1 => exact cc); (case side2 => exact eb); rintro e w84 ⟨rfl, hi, hb, hk⟩; refine ⟨_, rfl, ?_⟩; replace b4 := Aside0.mk (Kd.R_mono (Kd.R_keep (IsS112.apart (show IsS112 w0 _ g bb lr from cc) (uf1_ b4) (by decide)) hk (fun _ h => h.2)) (fun _ h => h.1)); replace bx := Aside0.mk (Kd.S_mono (Kd.S_keep (IsS112.apartS (show IsS112 w0 _ g bb lr from cc) (uf3_ bx) (by decide)) hk (fun _ h => h.2)) (fun _ h => h.1)); replace bu := kb_ hk bu ix; replace bo := kb_ hk bo iy; replace HK := Aside0.mk (KeepBut.trans (dd) hk (.inl rfl)); replace HB := Aside0.mk (hb); replace HI0 := Aside0.mk (hi); (try clear hb); (try clear hk hi); have ed6 := vh.out; have ed7 := o9.out; have fp0 := iy.out; have fp1 := yx.out; obtain ⟨fp2, fp3, fp4, fp5⟩ := blk2_ bo; obtain ⟨ed8, me, bd6⟩ := Kd.S_slice bx.out; subst bd6; have ti : 0 ≤ (0 : Int) := (by omega); have tj : 0 < (ce.length : Int) := of_decide_eq_true (g0_); obtain ⟨ae9, za, tk, bv7, tl, an5, an6⟩ := at_L1 (Kd.S_reads' bx.out).2.2 0 ti tj; cases bv7; obtain ⟨ce225, hce225, hMe225, hcc225⟩ := Kd.S_get bx.out [] 0 ti (by first | exact tj | exact of_decide_eq_true (g0_) | (have e_ := (Kd.S_reads' bx.out).1; omega)); obtain ⟨ve225_0, rfl, ge225_0⟩ := hMe225; have hv225_0 := hcc225 0 _ rfl; rw [Nat.add_zero, show ((Kd.slice 3 (Kd.int .i64))).sz = 1 from rfl, Nat.mul_one] at hv225_0; replace hv225_0 := Option.some.inj (hv225_0.symm.trans tl); rw [hv225_0] at ge225_0; have nf := Aside0.mk (show Kd.R (Kd.int .i64) 3 _ _ _ _ (rd_L1 ce 0) from ge225_0); clear hv225_0 ge225_0; have HX225_0 := Aside0.mk tl; clear hcc225 hce225; have qi225 : (0 < ce.length) = True := eq_true (by omega); (try rw [show ((0 : Int)).toNat = 0 from rfl] at tl); (try rw [Addr.add_zero'] at tl); have cu5 := Aside0.mk an6; have cu6 := Aside0.mk an5; clear an6 an5; replace ti := eq_true ti; replace tj := eq_true tj; have p82 : 0 ≤ (0 : Int) := (by omega); have q82 : (0 : Int) < (((rd_L1 ce 0).length : Int) : Int) := of_decide_eq_true (g0_); have qi82 : (0 < (rd_L1 ce 0).length) = True := eq_true (by omega); obtain ⟨bv8, fp6, cu7, cu8, gl82, cl82, HG82⟩ := Kd.R_form nf.out (by omega); (first | cases cu7 | (injection cu7 with ea_ en_ ec_; (first | subst ea_ | (injection ea_ with ea_; subst ea_)); subst ec_; clear en_)); have GB82 := Aside0.mk cu8; have GG82 := Aside0.mk HG82; clear cu8 gl82 HG82; obtain ⟨cu9, hf82_0⟩ := Kd.R_celln 0 nf.out (0 : Int) p82 q82; (try rw [show ((0 : Int)).toNat = 0 from rfl] at cu9); (try simp only [Nat.reduceMul, Nat.zero_mul, Nat.zero_add, Nat.reduceAdd] at cu9); (try rw [show ((0 : Int)).toNat = 0 from rfl] at hf82_0); (try simp only [Nat.reduceMul, Nat.zero_mul, Nat.zero_add, Nat.reduceAdd] at hf82_0); replace p82 := eq_true p82; replace q82 := eq_true q82; have hq89 : (0 : Int) < (ce.length : Int) := (by have h_ : (0 : Int) < ((ce.length : Int) : Int) := of_decide_eq_true (g0_); first | exact h_ | (have e_ := (Kd.S_reads' bx.out).1; omega) | simpa only [List.length_set, List.length_set] using h_); obtain ⟨oki89, ce89, hcl89, hM89, hcc89, hok89, hbk89⟩ := Kd.S_borrow bx.out [] (0 : Int) (by omega) hq89; obtain ⟨ve89_0, rfl, ge89_0⟩ := hM89; have hv89 := hcc89 0 _ rfl; rw [Nat.add_zero, show ((Kd.slice 3 (Kd.int .i64))).sz = 1 from rfl, Nat.mul_one] at hv89; replace hv89 := Option.some.inj (hv89.symm.trans HX225_0.out); subst hv89; clear hcc89 hcl89; replace ge89_0 := (show Kd.R (Kd.int .i64) 3 _ _ _ _ (rd_L1 ce 0) from ge89_0); have HP89 := Kd.R_putg ge89_0 (0 : Int) 1) | ((with_reducible refine gate_store (t := 3) (p := 95) rfl ?_); refine store_event (t := 3) (p := 95) (v := ?vo_w90) (w1 := (w84.setCell ⟨bv8, 0, none⟩ (.int .i64 1))) ?hg ?ho ?hn ?hr ?_; (case ho => rfl); (case hg => rfl); (case hn => rfl); (case hr => first | (go_simp; done) | (go_simp; rfl)); intro w90 hw; have hg : w84.grownBy w90 (some bv8) := (by rw [hw]; exact HP89.2); have hz_ : Kd.R (Kd.int .i64) 3 w90 w.heap.size oki89 (.slice (some ⟨bv8, 0, none⟩) (rd_L1 ce 0).length tk) fg := (by rw [hw, bd5.out]; exact HP89.1); have hp_ : Kd.S (Kd.slice 3 (Kd.int .i64)) 22 w90 w.heap.size (fun k_ => (w.heap.size ≤ k_) ∧ some k_ ≠ (g7 : Value).ownBlock) (.slice (some ae9) ce.length me) cu4 := (by rw [ed5.out]; exact hbk89 hg (fun k_ e_ => by injection e_ with e_; subst e_; exact ge89_0.1 _ rfl) (Kd.M_row hz_)); have hm_ := Kd.R_mono hz_ hok89; clear HP89 hbk89; replace b4 := Aside0.mk (Kd.R_grown1 (uf1_ b4) rfl hg ((nf.out.1 _ rfl).1.2)); replace bx := Aside0.mk (hp_); replace bu := Aside0.mk (blk_grown (g := di) (o := .cells #[.slice none 0 0, .slice none 0 0] 25 (0, 0)) (uf0_ bu) hg (Kd.R_ne nf.out bu.out (by decide))); replace bo := Aside0.mk (blk_grown (g := d0) (o := .cells #[g7, .slice (some ae9) ce.length me] 25 (0, 0)) (uf0_ bo) hg (Kd.R_ne nf.out bo.out (by decide))); replace HI0 := Aside0.mk (IsS112.grown (cc) hg (IsS112.own_ne HI0.out nf.out (by decide))); replace HB := Aside0.mk ((by rw [hw]; exact below_set (HB.out) (Nat.le_trans HL.out GB82.out) : Below w0.heap.size w0 w90)); replace HK := Aside0.mk (KeepBut.trans (dd) (KeepBut.of_grown hg g) (Kd.R_base2 nf.out)); have fp7 := Aside0.mk (hm_); have fp8 := Aside0.mk ((Kd.R_reads' hm_).2.1); clear nf; clear hg hw hp_ hz_ hm_ hok89; obtain ⟨ed9, ee0, ee1, ee2⟩ := blk2_ bo; obtain ⟨bd7, bd8, ee3⟩ := Kd.R_slice b4.out; subst ee3; have cv0 := ix.out; have cv1 := ae0.out; obtain ⟨cv2, cv3, cv4, cv5⟩ := blk2_ bu))
        refine bodyPost_ret (results_cell_row rfl _ _ di 25 #[.slice bd7 ee.length bd8, .slice (some ae9) ce.length me] (0, 0) _ rfl (by (with_reducible repeat (first | refine blk_drewN ?_ _ | refine blk_drew ?_ | refine blk_alloc ?_ _)); refine blk_put (cs := #[.slice bd7 ee.length bd8, .slice none 0 0]) ?_ 1 _ rfl; refine blk_put (cs := #[.slice none 0 0, .slice none 0 0]) ?_ 0 _ rfl; exact uf0_ bu) Try.underlying25 rfl (g1_)) rfl ?_
        exact ⟨_, _, g4_, by (with_reducible repeat (first | apply Kd.R_alloc | apply Kd.R_drewN | apply Kd.R_drew)); exact Kd.R_mono (Kd.R_far (p := ⟨di, 1, none⟩) (Kd.R_far (p := ⟨di, 0, none⟩) (Kd.R_types b4.out bu.out (by decide)) (fun _ hk => hk.2) (.slice bd7 ee.length bd8)) (fun _ hk => hk.2) (.slice (some ae9) ce.length me)) (fun _ hk => hk.1), Kd.S_V (by (with_reducible repeat (first | apply Kd.S_alloc | apply Kd.S_drewN | apply Kd.S_drew)); exact Kd.S_mono (Kd.S_far (p := ⟨di, 1, none⟩) (Kd.S_far (p := ⟨di, 0, none⟩) (Kd.S_types bx.out bu.out (by decide)) (fun _ hk => hk.2) (.slice bd7 ee.length bd8)) (fun _ hk => hk.2) (.slice (some ae9) ce.length me)) (fun _ hk => ⟨hk.1.1, hk.1.2⟩)), cc, eb, dd⟩
       ·rw [if_neg nc] at H
        have n_ : Kd.N (Kd.slice 3 (Kd.int .i64)) 22 wr w.heap.size (fun k_ => (w.heap.size ≤ k_) ∧ some k_ ≠ (g7 : Value).ownBlock ∧ k_ ≠ di ∧ k_ ≠ d0 ∧ k_ ≠ g) jp ce := Kd.N_mono (Kd.S_N (IsS112.apartS HI0.out (Kd.S_types (Kd.S_types bx.out bu.out (by decide)) bo.out (by decide)) (by decide))) (fun k_ hk => ⟨hk.1.1.1.1, hk.1.1.1.2, hk.1.1.2, hk.1.2, hk.2⟩)
        clear bx
        have bx := Aside0.mk n_
        clear n_
        have ed2 : (js == 2) = false := beq_eq_false_iff_ne.mpr nc
        have ed3 : (js != 2) = true := bne_iff_ne.mpr nc
        obtain ⟨ji80, hji80⟩ : ∃ j_ : Int, (wrap64 ((rd ic kw) - 1)) = j_ := ⟨_, rfl⟩
        replace H : (if 0 ≤ (ji80) then (if (ji80) < (ce.length : Int) then (if 1 ≤ ((rd_L1 ce (ji80)).length : Int) then (some (ee, (ce.set ((ji80) : Int).toNat ((rd_L1 ce (ji80)).drop 1)), qd)) else (none)) else (none)) else (none)) = some (r1, r2, r3) := by first | (rw [hji80] at H; exact H) | (simp only [hji80] at H ⊢; exact H)
        (try rw [hji80] at A56)
        (try rw [hji80] at rx)
        have hji80w : (IntKind.i64.wrap ((rd ic kw) - 1)) = ji80 := (i64_w _).trans hji80
        obtain ⟨c81, H⟩ := pos_ H
        have ed4 := decide_eq_true c81
        clear c81
        obtain ⟨vl, H⟩ := pos_ H
        have fp9 := decide_eq_true vl
        clear vl
        obtain ⟨c83, H⟩ := pos_ H
        have fq0 := eq_true c83
        have fq1 := decide_eq_true c83
        clear c83
        obtain ⟨fg, hy226⟩ : ∃ y_ : List Int, y_ = ((rd_L1 ce (ji80)).drop 1) := ⟨_, rfl⟩
        replace H : (some (ee, (ce.set ((ji80) : Int).toNat fg), qd)) = some (r1, r2, r3) := by first | (rw [hy226]; with_reducible exact H) | (have H2_ := (Option.bind_some _ _).symm.trans H; rw [hy226]; with_reducible exact H2_) | (have H2_ := (Option.bind_some _ _).symm.trans H; with_reducible exact H2_) | with_reducible exact H | (rw [hy226]; exact H) | exact H
        have bd5 := Aside0.mk hy226
        clear hy226
        obtain ⟨cv6, hy231⟩ : ∃ y_ : List (List Int), y_ = (ce.set ((ji80) : Int).toNat fg) := ⟨_, rfl⟩
        replace H : (some (ee, cv6, qd)) = some (r1, r2, r3) := by first | (rw [hy231]; with_reducible exact H) | (have H2_ := (Option.bind_some _ _).symm.trans H; rw [hy231]; with_reducible exact H2_) | (have H2_ := (Option.bind_some _ _).symm.trans H; with_reducible exact H2_) | with_reducible exact H | (rw [hy231]; exact H) | exact H
        have ee4 := Aside0.mk hy231
        clear hy231
        simp only [Option.some.injEq, Prod.mk.injEq] at H
        obtain ⟨rfl, rfl, rfl⟩ := H
        try go_wp2_with (first | ((with_reducible refine gate_callee (f := 106) rfl ?_); refine goesL_ (some 66) rfl rfl Try.func106 k_ rfl #[.pointer (some ⟨g, 0, none⟩), .int .i64 a1] rfl (g3_) ?_; (with_reducible refine (spec_l20Rd_odd.calls k1 g bb jb a1 true lr w0 _ ?side1 ?side2 A56.out).mono ?_); (case side1 => exact cc); (case side2 => exact eb); rintro e w85 ⟨rfl, hi, hb, hk⟩; refine ⟨_, rfl, ?_⟩; replace b4 := Aside0.mk (Kd.R_mono (Kd.R_keep (IsS112.apart (show IsS112 w0 _ g bb jb from cc) (uf1_ b4) (by decide)) hk (fun _ h => h.2)) (fun _ h => h.1)); replace bx := Aside0.mk (Kd.N_mono (Kd.N_keep (Kd.N_mono (ok := fun k_ => (((w.heap.size ≤ k_)) ∧ (some k_ ≠ (g7 : Value).ownBlock ∧ (k_ ≠ di ∧ (k_ ≠ d0 ∧ k_ ≠ g))))) (uf4_ bx) (fun k_ hk_ => (⟨hk_, hk_.2.2.2.2⟩ : _ ∧ k_ ≠ g))) hk (fun _ h => h.2)) (fun _ h => h.1)); replace bu := kb_ hk bu ix; replace bo := kb_ hk bo iy; replace HK := Aside0.mk (KeepBut.trans (dd) hk (.inl rfl)); replace HB := Aside0.mk (hb); replace HI0 := Aside0.mk (hi); (try clear hb); (try clear hk hi)) | ((with_reducible refine gate_callee (f := 70) rfl ?_); refine goesL_ (some 68) rfl rfl Try.func70 k_ rfl #[.pointer (some ⟨g, 0, none⟩), .int .i64 4] rfl (g3_) ?_; (with_reducible refine (spec_l20Rd_pick.calls k1 g bb lr 4 js qd w0 _ ?side1 ?side2 rx.out).mono ?_); (case side1 => exact cc); (case side2 => exact eb); rintro e w86 ⟨rfl, hi, hb, hk⟩; refine ⟨_, rfl, ?_⟩; replace b4 := Aside0.mk (Kd.R_mono (Kd.R_keep (IsS112.apart (show IsS112 w0 _ g bb lr from cc) (uf1_ b4) (by decide)) hk (fun _ h => h.2)) (fun _ h => h.1)); replace bx := Aside0.mk (Kd.N_mono (Kd.N_keep (Kd.N_mono (ok := fun k_ => (((w.heap.size ≤ k_)) ∧ (some k_ ≠ (g7 : Value).ownBlock ∧ (k_ ≠ di ∧ (k_ ≠ d0 ∧ k_ ≠ g))))) (uf4_ bx) (fun k_ hk_ => (⟨hk_, hk_.2.2.2.2⟩ : _ ∧ k_ ≠ g))) hk (fun _ h => h.2)) (fun _ h => h.1)); replace bu := kb_ hk bu ix; replace bo := kb_ hk bo iy; replace HK := Aside0.mk (KeepBut.trans (dd) hk (.inl rfl)); replace HB := Aside0.mk (hb); replace HI0 := Aside0.mk (hi); (try clear hb); (try clear hk hi)))
        replace b4 := Aside0.mk (Kd.R_drew b4.out)
        replace bx := Aside0.mk (Kd.N_drew bx.out)
        replace bu := Aside0.mk (blk_drew bu.out)
        replace bo := Aside0.mk (blk_drew bo.out)
        replace HI0 := Aside0.mk (IsS112.drew HI0.out)
        replace HK := Aside0.mk (keep_drew HK.out)
        replace HB := Aside0.mk (below_drew1 HB.out)
        obtain ⟨ed8, me, bd6⟩ := Kd.N_slice bx.out
        (first | subst bd6 | (injection bd6 with f1_ f2_ f3_; have f4_ := f1_.symm; have f5_ := f3_.symm; clear f1_ f2_ f3_; subst f4_; subst f5_))
        have ti : 0 ≤ ((ji80) : Int) := of_decide_eq_true (g0_)
        have tj : (ji80) < (ce.length : Int) := of_decide_eq_true (g0_)
        obtain ⟨ae9, za, tk, bv7, tl, an5, an6⟩ := at_L1 (Kd.N_reads' bx.out).2.2 (ji80) ti tj
        cases bv7
        obtain ⟨ce225, hce225, hMe225, hcc225⟩ := Kd.N_get bx.out [] (ji80) ti (by first | exact tj | exact of_decide_eq_true (g0_) | (have e_ := (Kd.N_reads' bx.out).1; omega))
        obtain ⟨ua225_0, uc225_0, rfl, ul225_0, ge225_0⟩ := Kd.FK_slice_open hMe225
        have hv225_0 := hcc225 0 _ rfl
        rw [Nat.add_zero, show ((Kd.slice 3 (Kd.int .i64))).sz = 1 from rfl, Nat.mul_one] at hv225_0
        replace hv225_0 := Option.some.inj (hv225_0.symm.trans tl)
        injection hv225_0 with hva_ hvn_ hvc_
        rw [hva_] at ge225_0
        rw [hvc_] at ul225_0
        have nf := Aside0.mk (show Kd.V (Kd.int .i64) 3 _ w.heap.size _ _ (rd_L1 ce (ji80)) from Kd.V_mk ul225_0 ge225_0)
        clear hva_ hvn_ hvc_ ge225_0 ul225_0
        clear hcc225 hce225
        have cu5 := Aside0.mk an6
        have cu6 := Aside0.mk an5
        clear an6 an5
        replace ti := eq_true ti
        replace tj := eq_true tj
        have q89 : (1 : Int) ≤ (((rd_L1 ce (ji80)).length : Int) : Int) := of_decide_eq_true (g0_)
        obtain ⟨i089, cv7, _, hsz89, _⟩ := info_parts info3
        have hroom89 : (rd_L1 ce (ji80)).length ≤ tk := cu6.out
        have hC89 : Kd.F (Kd.int .i64) _ _ za (rd_L1 ce (ji80)).length (rd_L1 ce (ji80)) := (Kd.V_at (base := w.heap.size) nf.out).2.2
        have hcut89 := cut_from (P := Try.prog) 22 3 .i64 Try.underlying22 cv7 1 hsz89 za (rd_L1 ce (ji80)).length tk 1 (by omega) q89
        have an7 := Kd.F_cut (m := (1 : Int).toNat) (c := tk) hC89 (by omega) hroom89
        obtain ⟨kz, hA89⟩ : ∃ A1, A1 = (if tk = (1 : Int).toNat then za else (za : Option Addr).map (·.add ((1 : Int).toNat * 1))) := ⟨_, rfl⟩
        obtain ⟨jd, bd9⟩ : ∃ c1, c1 = tk - (1 : Int).toNat := ⟨_, rfl⟩
        have hy89 : fg.length = (rd_L1 ce (ji80)).length - (1 : Int).toNat := (by rw [bd5.out, List.length_drop] <;> omega)
        rw [show (rd_L1 ce (ji80)).drop (1 : Int).toNat = fg from bd5.out.symm] at an7
        replace an7 : Kd.F (Kd.int .i64) _ _ kz fg.length fg := (by rw [hA89]; exact an7)
        rw [← hy89, ← hA89, ← bd9] at hcut89
        have af0 := Aside0.mk (show Kd.V (Kd.int .i64) 3 _ w.heap.size _ (.slice kz fg.length jd) fg from Kd.V_mk (by rw [hy89, bd9]; exact Nat.sub_le_sub_right hroom89 _) an7)
        have fq2 := Aside0.mk (show fg.length ≤ jd from by rw [hy89, bd9]; exact Nat.sub_le_sub_right hroom89 _)
        clear an7 hC89 hroom89 cv7 hsz89 bd9
        have KY89 := Aside0.mk hy89
        have KA89 := Aside0.mk hA89
        clear hy89 hA89
        replace q89 := eq_true q89
        have p84 : 0 ≤ ((ji80) : Int) := of_decide_eq_true (g0_)
        have q84 : ((ji80) : Int) < ((ce.length : Int) : Int) := of_decide_eq_true (g0_)
        obtain ⟨fw, fq3, cv8, cv9, gl84, cl84, HG84⟩ := Kd.N_form bx.out (by omega)
        (first | cases cv8 | (injection cv8 with ea_ en_ ec_; (first | subst ea_ | (injection ea_ with ea_; subst ea_)); subst ec_; clear en_))
        have GB84 := Aside0.mk cv9
        have GG84 := Aside0.mk HG84
        clear cv9 gl84 HG84
        (first | simp only [add_plain] at tl | skip)
        obtain ⟨ce84, hcl84, hM84, hcc84, hfr84⟩ := Kd.N_elem bx.out [] ((ji80) : Int) p84 q84
        obtain ⟨ua84_0, uc84_0, rfl, ul84_0, ge84_0⟩ := Kd.FK_slice_open hM84
        have cw0 := hcc84 0 _ rfl
        have hf84_0 := hfr84 0
        (try simp only [show ((Kd.slice 3 (Kd.int .i64))).sz = 1 from rfl, Nat.mul_one, Nat.add_zero] at cw0)
        (try simp only [show ((Kd.slice 3 (Kd.int .i64))).sz = 1 from rfl, Nat.mul_one, Nat.add_zero] at hf84_0)
        clear hcl84 hcc84 hfr84 hM84
        replace p84 := eq_true p84
        replace q84 := eq_true q84
        have HN0_go84 := Aside0.mk (show g ≠ fw from by have h_ := IsS112.own_neN HI0.out bx.out (by decide); intro e_; exact h_ (g7_))
        have HX90 := Aside0.mk (show Kd.N (Kd.slice 3 (Kd.int .i64)) 22 _ w.heap.size (fun k_ => (w.heap.size ≤ k_) ∧ some k_ ≠ (g7 : Value).ownBlock ∧ k_ ≠ di ∧ k_ ≠ d0 ∧ k_ ≠ g) (.slice (some ⟨fw, 0, none⟩) ce.length me) ce from (Kd.N_mono (bx.out) (fun k_ hk => ⟨hk.1, ⟨hk.2.1, ⟨hk.2.2.1, ⟨hk.2.2.2.1, hk.2.2.2.2⟩⟩⟩⟩)))
        obtain ⟨ce90, hcl90, hM90, hcc90, hfr90⟩ := Kd.N_elem HX90.out [] ((ji80) : Int) (of_decide_eq_true (g0_)) (by have h_ : ((ji80) : Int) < ((ce.length : Int) : Int) := of_decide_eq_true (g0_); first | exact h_ | (have e_ := (Kd.N_reads' bx.out).1; omega) | simpa using h_)
        obtain ⟨ua90_0, uc90_0, rfl, ul90_0, ge90_0⟩ := Kd.FK_slice_open hM90
        have HP90 := (Kd.N_seg HX90.out ((ji80) : Int) (of_decide_eq_true (g0_)) (by have h_ : ((ji80) : Int) < ((ce.length : Int) : Int) := of_decide_eq_true (g0_); first | exact h_ | (have e_ := (Kd.N_reads' bx.out).1; omega) | simpa using h_) (seg := [.slice kz fg.length jd]) (j := 0) hcl90 hcc90 (show 1 ≤ 1 from by decide) (x' := fg) (Kd.FK_slice_mk (Kd.V_reads' (Kd.V_mono (ok' := (fun k_ => ((fun k_ => (w.heap.size ≤ k_) ∧ some k_ ≠ (g7 : Value).ownBlock ∧ k_ ≠ di ∧ k_ ≠ d0 ∧ k_ ≠ g)) k_ ∧ k_ ≠ fw)) (af0.out) (fun k_ hk => ⟨⟨hk.1.1, ⟨hk.1.2.1, ⟨hk.1.2.2.1, ⟨hk.1.2.2.2.1, hk.1.2.2.2.2⟩⟩⟩⟩, fun e_ => (hk.2) (g7_)⟩))).2.1 (Kd.V_F (Kd.V_mono (ok' := (fun k_ => ((fun k_ => (w.heap.size ≤ k_) ∧ some k_ ≠ (g7 : Value).ownBlock ∧ k_ ≠ di ∧ k_ ≠ d0 ∧ k_ ≠ g)) k_ ∧ k_ ≠ fw)) (af0.out) (fun k_ hk => ⟨⟨hk.1.1, ⟨hk.1.2.1, ⟨hk.1.2.2.1, ⟨hk.1.2.2.2.1, hk.1.2.2.2.2⟩⟩⟩⟩, fun e_ => (hk.2) (g7_)⟩)))) (fun _ hk => hk)).1
        (try simp only [show ((Kd.slice 3 (Kd.int .i64))).sz = 1 from rfl, Nat.mul_one, Nat.add_zero] at HP90)
        rw [← ee4.out] at HP90
        have HQ90 := Aside0.mk HP90
        clear hcl90 hcc90 hfr90 hM90 HP90
        refine start_ (n := 13) (S := fun w' => w'.cell? ⟨d0, 0, none⟩ = some (g7) ∧ w'.cell? ⟨d0, 1, none⟩ = some (.slice (some ⟨fw, 0, none⟩) ce.length me) ∧ w'.cell? ⟨fw, ((ji80)).toNat, none⟩ = some (.slice za (rd_L1 ce (ji80)).length tk)) (ds := [12]) (tl_ 13 0) (g1_) rfl (g1_) ⟨(blk_cell bo.out 0).trans rfl, (blk_cell bo.out 1).trans rfl, tl⟩ (fun hHeld => ?_); refine with_tabW spec_l20Book.tab19 spec_l20Book.bits19 (fun HT_ HW_ => ?_)
        generalize w86.drew = qe at b4 bx bu bo HI0 HK HB GG84 nf af0 HQ90 cu5 hf84_0 tl cw0 hHeld ⊢
        refine pw_ 0 69 (tl_ 13 1) rfl rfl ?_
        refine pw_ 2 71 (tl_ 13 5) rfl rfl ?_
        refine pw_ 3 72 (tl_ 13 13) rfl rfl ?_
        refine pw_ 4 73 (tl_ 13 29) rfl rfl ?_
        refine pw_ 6 75 (tl_ 13 93) rfl rfl ?_
        refine pw_ 7 76 (tl_ 13 221) rfl rfl ?_
        refine tk1_ 1 70 (tl_ 13 223) rfl rfl hHeld ?_
        refine tk1_ 5 74 (tl_ 13 255) rfl rfl hHeld ?_
        refine pw_ 8 77 (tl_ 13 511) rfl rfl ?_
        refine tk1_ 9 78 (tl_ 13 1023) rfl rfl hHeld ?_
        refine pw_ 10 79 (tl_ 13 2047) rfl rfl ?_
        refine pw_ 11 80 (tl_ 13 4095) rfl rfl ?_
        refine last_ (i := 12) (N := none) (tl_ 13 8191) rfl rfl (one_of HT_.out (g1_)) (by decide) (fun K hK => ?_)
        refine skip_ (w1 := ?_) (by rfl) rfl ?_ ?_
        rotate_left
        ·go_simp
         rfl
        refine hK.out _ _ ?_
        clear hK K
        refine done_ (done_of HT_.out (g1_)) ?_
        have n0_ : Aside0 (Kd.R (Kd.int .i64) 3 (qe.setCell ⟨fw, ((ji80) : Int).toNat, none⟩ (.slice kz fg.length jd)) w.heap.size (fun k_ => (w.heap.size ≤ k_)) g7 ee) := ⟨by (with_reducible repeat (first | apply Kd.R_alloc | apply Kd.R_drewN | apply Kd.R_drew)); exact Kd.R_mono (Kd.R_far (p := ⟨fw, ((ji80) : Int).toNat, none⟩) (Kd.R_types b4.out GG84.out (by decide)) (fun _ hk => hk.2) (.slice kz fg.length jd)) (fun _ hk => hk.1)⟩
        have n1_ : Aside0 (Kd.N (Kd.slice 3 (Kd.int .i64)) 22 (qe.setCell ⟨fw, ((ji80) : Int).toNat, none⟩ (.slice kz fg.length jd)) w.heap.size (fun k_ => (w.heap.size ≤ k_) ∧ some k_ ≠ (g7 : Value).ownBlock ∧ k_ ≠ di ∧ k_ ≠ d0 ∧ k_ ≠ g) (.slice (some ⟨fw, 0, none⟩) ce.length me) cv6) := ⟨uf4_ HQ90⟩
        have n2_ : Aside0 (Kd.V (Kd.int .i64) 3 (qe.setCell ⟨fw, ((ji80) : Int).toNat, none⟩ (.slice kz fg.length jd)) w.heap.size (fun k_ => (w.heap.size ≤ k_) ∧ some k_ ≠ (g7 : Value).ownBlock ∧ some k_ ≠ (.slice (some ⟨fw, 0, none⟩) ce.length me : Value).ownBlock ∧ k_ ≠ di ∧ k_ ≠ d0 ∧ k_ ≠ g) (.slice za (rd_L1 ce (ji80)).length tk) (rd_L1 ce (ji80))) := ⟨by (with_reducible repeat (first | apply Kd.V_alloc | apply Kd.V_drewN | apply Kd.V_drew)); exact Kd.V_mono (Kd.V_far (p := ⟨fw, ((ji80) : Int).toNat, none⟩) (Kd.V_mono nf.out (fun k_ hk => (⟨hk, fun e_ => hk.2 (g7_)⟩ : _ ∧ k_ ≠ fw))) (fun _ hk => hk.2) (.slice kz fg.length jd)) (fun _ hk => ⟨hk.1.1.1, ⟨hk.1.1.2.1, ⟨hk.1.2, ⟨hk.1.1.2.2.1, ⟨hk.1.1.2.2.2.1, hk.1.1.2.2.2.2⟩⟩⟩⟩⟩)⟩
        have n3_ : Aside0 (Kd.V (Kd.int .i64) 3 (qe.setCell ⟨fw, ((ji80) : Int).toNat, none⟩ (.slice kz fg.length jd)) w.heap.size (fun k_ => (w.heap.size ≤ k_) ∧ some k_ ≠ (g7 : Value).ownBlock ∧ some k_ ≠ (.slice (some ⟨fw, 0, none⟩) ce.length me : Value).ownBlock ∧ k_ ≠ di ∧ k_ ≠ d0 ∧ k_ ≠ g) (.slice kz fg.length jd) fg) := ⟨by (with_reducible repeat (first | apply Kd.V_alloc | apply Kd.V_drewN | apply Kd.V_drew)); exact Kd.V_mono (Kd.V_far (p := ⟨fw, ((ji80) : Int).toNat, none⟩) (Kd.V_mono af0.out (fun k_ hk => (⟨hk, fun e_ => hk.2 (g7_)⟩ : _ ∧ k_ ≠ fw))) (fun _ hk => hk.2) (.slice kz fg.length jd)) (fun _ hk => ⟨hk.1.1.1, ⟨hk.1.1.2.1, ⟨hk.1.2, ⟨hk.1.1.2.2.1, ⟨hk.1.1.2.2.2.1, hk.1.1.2.2.2.2⟩⟩⟩⟩⟩)⟩
        have n4_ : Aside0 ((qe.setCell ⟨fw, ((ji80) : Int).toNat, none⟩ (.slice kz fg.length jd)).heap[di]? = some (.cells #[.slice none 0 0, .slice none 0 0] 25 (0, 0))) := ⟨by (with_reducible repeat (first | refine blk_drewN ?_ _ | refine blk_drew ?_ | refine blk_alloc ?_ _)); refine blk_far ?_ (by have h_ := Kd.N_away bx.out (fun _ hk => hk.2.2.1); intro e_; exact h_ (g7_)) _; exact uf0_ bu⟩
        have n5_ : Aside0 ((qe.setCell ⟨fw, ((ji80) : Int).toNat, none⟩ (.slice kz fg.length jd)).heap[d0]? = some (.cells #[g7, .slice (some ⟨fw, 0, none⟩) ce.length me] 25 (0, 0))) := ⟨by (with_reducible repeat (first | refine blk_drewN ?_ _ | refine blk_drew ?_ | refine blk_alloc ?_ _)); refine blk_far ?_ (by have h_ := Kd.N_away bx.out (fun _ hk => hk.2.2.2.1); intro e_; exact h_ (g7_)) _; exact uf0_ bo⟩
        have n6_ : Aside0 (IsS112 w0 (qe.setCell ⟨fw, ((ji80) : Int).toNat, none⟩ (.slice kz fg.length jd)) g bb qd) := ⟨cc⟩
        have n7_ : Aside0 (KeepBut w (qe.setCell ⟨fw, ((ji80) : Int).toNat, none⟩ (.slice kz fg.length jd)) g none) := ⟨dd⟩
        have n8_ : Aside0 (Below w0.heap.size w0 (qe.setCell ⟨fw, ((ji80) : Int).toNat, none⟩ (.slice kz fg.length jd))) := ⟨eb⟩
        (try clear b4)
        (try clear bx)
        (try clear nf)
        (try clear af0)
        (try clear bu)
        (try clear bo)
        (try clear HI0)
        (try clear HK)
        (try clear HB)
        generalize (qe.setCell ⟨fw, ((ji80) : Int).toNat, none⟩ (.slice kz fg.length jd)) = w91 at n0_ n1_ n2_ n3_ n4_ n5_ n6_ n7_ n8_ ⊢
        have b4 := n0_
        have bx := n1_
        have nf := n2_
        have af0 := n3_
        have bu := n4_
        have bo := n5_
        have HI0 := n6_
        have HK := n7_
        have HB := n8_
        clear n0_ n1_ n2_ n3_ n4_ n5_ n6_ n7_ n8_
        have ee5 := vh.out
        have ee6 := o9.out
        have cv0 := iy.out
        have cv1 := yx.out
        obtain ⟨cv2, cv3, cv4, cv5⟩ := blk2_ bo
        obtain ⟨be0, be1, ee7⟩ := Kd.R_slice b4.out
        subst ee7
        have ee8 := ix.out
        have ee9 := ae0.out
        obtain ⟨fq4, fq5, fq6, fq7⟩ := blk2_ bu
        try go_wp2
        refine bodyPost_ret (results_cell_row rfl _ _ di 25 #[.slice be0 ee.length be1, .slice (some ⟨fw, 0, none⟩) ce.length me] (0, 0) _ rfl (by (with_reducible repeat (first | refine blk_drewN ?_ _ | refine blk_drew ?_ | refine blk_alloc ?_ _)); refine blk_put (cs := #[.slice be0 ee.length be1, .slice none 0 0]) ?_ 1 _ rfl; refine blk_put (cs := #[.slice none 0 0, .slice none 0 0]) ?_ 0 _ rfl; exact uf0_ bu) Try.underlying25 rfl (g1_)) rfl ?_
        exact ⟨_, _, by first | rfl | (simp [errW_none, errW_some] <;> rfl) | (simp only [← hji80]; first | rfl | (simp [errW_none, errW_some] <;> rfl)) | (simp [*, errW_none, errW_some] <;> rfl), by (with_reducible repeat (first | apply Kd.R_alloc | apply Kd.R_drewN | apply Kd.R_drew)); exact Kd.R_mono (Kd.R_far (p := ⟨di, 1, none⟩) (Kd.R_far (p := ⟨di, 0, none⟩) (Kd.R_types b4.out bu.out (by decide)) (fun _ hk => hk.2) (.slice be0 ee.length be1)) (fun _ hk => hk.2) (.slice (some ⟨fw, 0, none⟩) ce.length me)) (fun _ hk => hk.1), Kd.N_V (by (with_reducible repeat (first | apply Kd.N_alloc | apply Kd.N_drewN | apply Kd.N_drew)); exact Kd.N_mono (Kd.N_far (p := ⟨di, 1, none⟩) (Kd.N_far (p := ⟨di, 0, none⟩) (Kd.N_mono bx.out (fun k_ hk => (⟨hk, hk.2.2.1⟩ : _ ∧ k_ ≠ di))) (fun _ hk => hk.2) (.slice be0 ee.length be1)) (fun _ hk => hk.2) (.slice (some ⟨fw, 0, none⟩) ce.length me)) (fun _ hk => ⟨hk.1.1, hk.1.2.1⟩)), cc, eb, dd⟩
    ·replace th := Bool.eq_false_iff.mpr th
     subst th
     replace H := ifn_ H
     simp only [Option.some.injEq, Prod.mk.injEq] at H
     obtain ⟨rfl, rfl, rfl⟩ := H
     go_wp2_with (first | ((with_reducible refine gate_callee (f := 106) rfl ?_); refine goesL_ (some 66) rfl rfl Try.func106 k_ rfl #[.pointer (some ⟨g, 0, none⟩), .int .i64 a1] rfl (g3_) ?_; (with_reducible refine (spec_l20Rd_odd.calls k1 g bb jb a1 false lr w0 _ ?side1 ?side2 A56.out).mono ?_); (case side1 => exact cc); (case side2 => exact eb); rintro e w95 ⟨rfl, hi, hb, hk⟩; refine ⟨_, rfl, ?_⟩; replace b4 := Aside0.mk (Kd.R_mono (Kd.R_keep (IsS112.apart (show IsS112 w0 _ g bb jb from cc) (uf1_ b4) (by decide)) hk (fun _ h => h.2)) (fun _ h => h.1)); replace bx := Aside0.mk (Kd.S_mono (Kd.S_keep (IsS112.apartS (show IsS112 w0 _ g bb jb from cc) (uf3_ bx) (by decide)) hk (fun _ h => h.2)) (fun _ h => h.1)); replace bu := kb_ hk bu ix; replace bo := kb_ hk bo iy; replace HK := Aside0.mk (KeepBut.trans (dd) hk (.inl rfl)); replace HB := Aside0.mk (hb); replace HI0 := Aside0.mk (hi); (try clear hb); (try clear hk hi); have ee8 := vh.out; have ee9 := o9.out; have ef0 := iy.out; have ef1 := yx.out; obtain ⟨fq8, fq9, fr0, fr1⟩ := blk2_ bo; obtain ⟨be2, be3, ef2⟩ := Kd.R_slice b4.out; subst ef2; have ef3 := ix.out; have ef4 := ae0.out; obtain ⟨ef5, ef6, ef7, ef8⟩ := blk2_ bu; obtain ⟨bv9, bw0, ef9⟩ := Kd.S_slice bx.out; subst ef9))
     refine bodyPost_ret (results_cell_row rfl _ _ di 25 #[.slice be2 ee.length be3, .slice bv9 ce.length bw0] (0, 0) _ rfl (by (with_reducible repeat (first | refine blk_drewN ?_ _ | refine blk_drew ?_ | refine blk_alloc ?_ _)); refine blk_put (cs := #[.slice be2 ee.length be3, .slice none 0 0]) ?_ 1 _ rfl; refine blk_put (cs := #[.slice none 0 0, .slice none 0 0]) ?_ 0 _ rfl; exact uf0_ bu) Try.underlying25 rfl (g1_)) rfl ?_
     exact ⟨_, _, g4_, by (with_reducible repeat (first | apply Kd.R_alloc | apply Kd.R_drewN | apply Kd.R_drew)); exact Kd.R_mono (Kd.R_far (p := ⟨di, 1, none⟩) (Kd.R_far (p := ⟨di, 0, none⟩) (Kd.R_types b4.out bu.out (by decide)) (fun _ hk => hk.2) (.slice be2 ee.length be3)) (fun _ hk => hk.2) (.slice bv9 ce.length bw0)) (fun _ hk => hk.1), Kd.S_V (by (with_reducible repeat (first | apply Kd.S_alloc | apply Kd.S_drewN | apply Kd.S_drew)); exact Kd.S_mono (Kd.S_far (p := ⟨di, 1, none⟩) (Kd.S_far (p := ⟨di, 0, none⟩) (Kd.S_types bx.out bu.out (by decide)) (fun _ hk => hk.2) (.slice be2 ee.length be3)) (fun _ hk => hk.2) (.slice bv9 ce.length bw0)) (fun _ hk => ⟨hk.1.1, hk.1.2⟩)), cc, eb, dd⟩
def spec_DrawWithoutCircles.f (k : Nat) (l0 : List Int) : Option (List Int × (List (List Int))) := (spec_l20Open.f l0).bind fun bt481 => ((spec_l20Book.f k bt481.1 bt481.2 9).bind fun bt484 => (some (bt484.1, bt484.2.1)))
theorem spec_DrawWithoutCircles.mq {p : Prop} (h : p := by
 repeat' first
 | (with_reducible exact spec_l20Book.mono _ _ _ _)
 | (with_reducible exact LeO.refl _)
 | (with_reducible exact LeO.none _)
 | (with_reducible refine LeO.ite ?_ ?_)
 | (with_reducible refine LeO.bind ?_ (fun _ => ?_))
 | exact spec_l20Book.mono _ _ _ _
 | exact LeO.none _
 | refine LeO.ite ?_ ?_
 | refine LeO.bind ?_ (fun _ => ?_)) : p := h
theorem spec_DrawWithoutCircles.mono : ∀ a0 k, LeO (spec_DrawWithoutCircles.f k a0) (spec_DrawWithoutCircles.f (k + 1) a0) := by
 intro a0 k
 unfold spec_DrawWithoutCircles.f
 exact spec_DrawWithoutCircles.mq
theorem sx {p : Prop} (h : p := by repeat (first | (with_reducible first | exact HB.out | apply below_alloc | apply pw_below_drewN | apply below_drew1 | refine below_set ?_ fa6.out | refine below_set ?_ (IsS112.ge HI483.out)) | exact HB.out)) : p := h
theorem dt1 {p : Prop} (h : p := by repeat (first | (with_reducible first | exact HI483.out | apply IsS112.alloc | apply IsS112.drewN | apply IsS112.drew | apply IsS112.set_1 | refine IsS112.far ?_ dk0.out _) | exact HI483.out)) : p := h
set_option maxHeartbeats 8000000 in
set_option maxRecDepth 100000 in
theorem spec_DrawWithoutCircles.calls (k : Nat) (A0 : Option Addr) (c0 : Nat) (l0 : List Int) (r1 : List Int) (r2 : List (List Int)) (w : World) (ct : Kd.C (Kd.int .u8) w A0 l0.length l0) (dq : l0.length ≤ c0) (h : spec_DrawWithoutCircles.f k l0 = some (r1, r2)) :
  Calls Try.prog 51 #[.slice A0 l0.length c0] w fun e w' => ∃ v0_ v1_ : Value, e = .returned (.agg #[v0_, v1_]) ∧ Kd.R (Kd.int .i64) 3 w' w.heap.size (fun k_ => (w.heap.size ≤ k_)) v0_ r1 ∧ Kd.V (Kd.slice 3 (Kd.int .i64)) 22 w' w.heap.size (fun k_ => (w.heap.size ≤ k_) ∧ some k_ ≠ (v0_ : Value).ownBlock) v1_ r2 ∧ Below w.heap.size w w' := by
 have hu25 := Try.underlying25
 have eg := Aside0.mk ct
 have jo := Aside0.mk dq
 clear ct dq
 have HB := Aside0.mk (Below.refl w.heap.size w)
 have H : ((spec_l20Open.f l0).bind fun bt481 => ((spec_l20Book.f k bt481.1 bt481.2 9).bind fun bt484 => (some (bt484.1, bt484.2.1)))) = some (r1, r2) := h
 clear h
 replace H := Option.bind_eq_some_iff.mp H
 obtain ⟨⟨dk1, dk2⟩, wq, H⟩ := H
 try dsimp only at H
 have A2 := Aside0.mk wq
 clear wq
 replace H := Option.bind_eq_some_iff.mp H
 obtain ⟨⟨au7, bn3, fa7⟩, ja, H⟩ := H
 try dsimp only at H
 have A3 := Aside0.mk ja
 clear ja
 simp only [Option.some.injEq, Prod.mk.injEq] at H
 obtain ⟨rfl, rfl⟩ := H
 go_enter Try.func51, Try.ntmps51
 go_wp2_with (first | ((with_reducible refine gate_dst (N := 2) rfl ?_); refine bx_ (N := 2) #[.slice none 0 0, .slice none 0 0] 25 ?_; intro oy hg w4 hbox hb; have sn := Aside0.mk (hbox); have gg2 := Aside0.mk ((by rw [hg]; exact (below_size (sx)) : w.heap.size ≤ oy)); have fa6 := Aside0.mk ((by rw [hg]; exact (below_size (sx)) : w.heap.size ≤ oy)); replace HB := Aside0.mk (below_step (sx) hb); clear hb hbox hg) | ((with_reducible refine gate_callee (f := 69) rfl ?_); refine goesL_ (some 4) rfl rfl Try.func69 k_ rfl #[.slice A0 l0.length c0] rfl (g3_) ?_; (with_reducible refine (spec_l20Open.calls _ _ l0 dk1 dk2 w _ ?side1 ?side2 ?side3 A2.out).mono ?_); (case side1 => exact sx); (case side2 => exact eg.out); (case side3 => exact jo.out); rintro e w5 ⟨g483, rfl, hi, hb, hb2⟩; refine ⟨_, rfl, ?_⟩; replace HB := Aside0.mk (hb); have HI483 := Aside0.mk (hi); have dk0 := Aside0.mk (IsS112.ne_blk hi (blk_below (g := oy) (o := .cells #[.slice none 0 0, .slice none 0 0] 25 (0, 0)) (uf0_ sn) hb2) (by decide)); have dk3 := Aside0.mk (Ne.symm (IsS112.ne_blk hi (blk_below (g := oy) (o := .cells #[.slice none 0 0, .slice none 0 0] 25 (0, 0)) (uf0_ sn) hb2) (by decide))); replace sn := Aside0.mk (blk_below (g := oy) (o := .cells #[.slice none 0 0, .slice none 0 0] 25 (0, 0)) (uf0_ sn) hb2); (try clear hb); (try clear hb2); (try clear hk); (try clear hi)) | ((with_reducible refine gate_callee (f := 91) rfl ?_); refine goesL_ (some 5) rfl rfl Try.func91 k_ rfl #[.pointer (some ⟨g483, 0, none⟩), .int .i64 9] rfl (g3_) ?_; (with_reducible refine (spec_l20Book.calls k g483 dk1 dk2 9 au7 bn3 fa7 w _ ?side1 ?side2 A3.out).mono ?_); (case side1 => exact dt1); (case side2 => exact sx); rintro e w6 ⟨fa8, gg3, rfl, ac, b6, hi, hb, hk⟩; refine ⟨_, rfl, ?_⟩; have dk4 := Aside0.mk (Kd.R_lower (Kd.R_newM (M := fun k_ => (w.heap.size ≤ k_)) (Kd.R_mono (ok' := fun k_ => True) ac (fun _ hk_ => trivial)) (below_size (sx)) (fun k_ h_ => h_)) (below_size (sx))); have dk5 := Aside0.mk (Kd.V_lower (Kd.V_mono (ok' := fun k_ => (w.heap.size ≤ k_) ∧ some k_ ≠ (fa8 : Value).ownBlock ∧ k_ ≠ oy ∧ k_ ≠ g483) b6 (fun k_ hk_ => ⟨(Nat.le_trans (below_size (sx)) hk_.1), hk_.2, (Kd.freshB (g := oy) (o := .cells #[.slice none 0 0, .slice none 0 0] 25 (0, 0)) (uf0_ sn) k_ hk_.1), (IsS112.fresh (dt1) k_ hk_.1)⟩)) (below_size (sx))); replace sn := kb_ hk sn dk3; replace HB := Aside0.mk (hb); replace HI483 := Aside0.mk (hi); (try clear hb); (try clear hb2); (try clear hk); (try clear hi); (try clear ac); (try clear b6); obtain ⟨Ao7, co7, eo7⟩ := Kd.R_slice dk4.out; subst eo7; have dw6 := dk3.out; have dw7 := dk0.out; obtain ⟨aj4, aj5, aj6, aj7⟩ := blk2_ sn; obtain ⟨cy, cz, p8⟩ := Kd.V_slice dk5.out; subst p8))
 refine bodyPost_ret (results_cell_row rfl _ _ oy 25 #[.slice Ao7 au7.length co7, .slice cy bn3.length cz] (0, 0) _ rfl (by (with_reducible repeat (first | refine blk_drewN ?_ _ | refine blk_drew ?_ | refine blk_alloc ?_ _)); refine blk_put (cs := #[.slice Ao7 au7.length co7, .slice none 0 0]) ?_ 1 _ rfl; refine blk_put (cs := #[.slice none 0 0, .slice none 0 0]) ?_ 0 _ rfl; exact uf0_ sn) Try.underlying25 rfl (g1_)) rfl ?_
 exact ⟨_, _, g4_, by (with_reducible repeat (first | apply Kd.R_alloc | apply Kd.R_drewN | apply Kd.R_drew)); exact Kd.R_mono (Kd.R_far (p := ⟨oy, 1, none⟩) (Kd.R_far (p := ⟨oy, 0, none⟩) (Kd.R_types dk4.out sn.out (by decide)) (fun _ hk => hk.2) (.slice Ao7 au7.length co7)) (fun _ hk => hk.2) (.slice cy bn3.length cz)) (fun _ hk => hk.1.1), by (with_reducible repeat (first | apply Kd.V_alloc | apply Kd.V_drewN | apply Kd.V_drew)); exact Kd.V_mono (Kd.V_far (p := ⟨oy, 1, none⟩) (Kd.V_far (p := ⟨oy, 0, none⟩) (Kd.V_mono dk5.out (fun k_ hk => (⟨hk, hk.2.2.1⟩ : _ ∧ k_ ≠ oy))) (fun _ hk => hk.2) (.slice Ao7 au7.length co7)) (fun _ hk => hk.2) (.slice cy bn3.length cz)) (fun _ hk => ⟨hk.1.1, hk.1.2.1⟩), sx⟩
def impl_copyBook.l0 : Nat → List (List Int) → Int → Int → List Int → List (List Int) → Option (List Int × (List (List Int)))
 | 0, _, _, _, _, _ => none
 | k + 1, j7, gi, ir, db4, cb7 => if ir < gi then (if 0 ≤ ir then (if ir < (j7.length : Int) then ((some (([] : List Int) : List Int)).bind fun aa7 => (if aa7.length + (rd_L1 j7 ir).length < 17592186044416 then (if cb7.length < 5864062014805 then (impl_copyBook.l0 k j7 gi (wrap64 (ir + 1)) db4 (cb7 ++ [(aa7 ++ (rd_L1 j7 ir))])) else (none)) else (none))) else (none)) else (none)) else (some (db4, cb7))
def impl_copyBook.f (k : Nat) (ab : List Int) (aa : List (List Int)) : Option (List Int × (List (List Int))) := (some (([] : List Int) : List Int)).bind fun sg => (if sg.length + ab.length < 17592186044416 then (impl_copyBook.l0 k aa (aa.length : Int) 0 (sg ++ ab) ([] : List (List Int))) else (none))
theorem impl_copyBook.mq {p : Prop} (h : p := by
 repeat' first
 | (with_reducible exact ih0 _ _ _ _ _)
 | (with_reducible exact LeO.refl _)
 | (with_reducible exact LeO.none _)
 | (with_reducible refine LeO.ite ?_ ?_)
 | (with_reducible refine LeO.bind ?_ (fun _ => ?_))
 | exact ih0 _ _ _ _ _
 | exact LeO.none _
 | refine LeO.ite ?_ ?_
 | refine LeO.bind ?_ (fun _ => ?_)) : p := h
theorem impl_copyBook.mono_l : ∀ k, (∀ y0 y1 y2 y3 y4, LeO (impl_copyBook.l0 k y0 y1 y2 y3 y4) (impl_copyBook.l0 (k + 1) y0 y1 y2 y3 y4))
 | 0 => fun _ _ _ _ _ r h => by simp [impl_copyBook.l0] at h
 | k + 1 => by
  have ih0 := impl_copyBook.mono_l k
  ·intro y0 y1 y2 y3 y4
   unfold impl_copyBook.l0
   exact impl_copyBook.mq
theorem impl_copyBook.mono : ∀ a0 a1 k, LeO (impl_copyBook.f k a0 a1) (impl_copyBook.f (k + 1) a0 a1) := by
 intro a0 a1 k
 have ih0 := impl_copyBook.mono_l k
 unfold impl_copyBook.f
 exact impl_copyBook.mq
def impl_copyBook.T5 : Bool × List (List Nat × List Nat) := (true, [([], []), ([0], [0]), ([], []), ([], []), ([2, 3], [2, 3]), ([4], [4]), ([1, 5, 4], [1, 5]), ([0, 1, 2, 3, 4, 5, 6], []), ([7, 6, 6, 0, 1, 2, 3, 4, 5, 6], [6, 7])])
def impl_copyBook.B5 : List Nat := [0, 1, 0, 0, 12, 28, 63, 127, 255]
theorem impl_copyBook.tab5 : rtab .any (opsOf Try.f111 5) = impl_copyBook.T5 := by kernel_rfl
theorem impl_copyBook.bits5 : waitsOk impl_copyBook.T5.2 impl_copyBook.B5 = true := by kernel_rfl
theorem lk {p : Prop} (h : p := by repeat (first | (with_reducible first | exact HB.out | apply below_alloc | apply pw_below_drewN | apply below_drew1 | refine below_set ?_ em2.out | refine below_set ?_ em3.out | refine below_set ?_ em4.out) | exact HB.out)) : p := h
set_option maxHeartbeats 8000000 in
set_option maxRecDepth 100000 in
theorem impl_copyBook.calls (k : Nat) (af : Option Addr) (ae : Nat) (ab : List Int) (ah : Option Addr) (ag : Nat) (aa : List (List Int)) (r1 : List Int) (r2 : List (List Int)) (w : World) (cg : Kd.C (Kd.int .i64) w af ab.length ab) (ck : ab.length ≤ ae) (ch : Kd.C (Kd.slice 3 (Kd.int .i64)) w ah aa.length aa) (cl : aa.length ≤ ag) (h : impl_copyBook.f k ab aa = some (r1, r2)) :
  Calls Try.prog 111 #[.agg #[.slice af ab.length ae, .slice ah aa.length ag]] w fun e w' => ∃ v0_ v1_ : Value, e = .returned (.agg #[v0_, v1_]) ∧ Kd.R (Kd.int .i64) 3 w' w.heap.size (fun _ => True) v0_ r1 ∧ Kd.S (Kd.slice 3 (Kd.int .i64)) 22 w' w.heap.size (fun k_ => some k_ ≠ (v0_ : Value).ownBlock) v1_ r2 ∧ Below w.heap.size w w' := by
 have hu25 := Try.underlying25
 have b7 := Aside0.mk cg
 have cn := Aside0.mk ck
 clear cg ck
 have bz := Aside0.mk ch
 have cr := Aside0.mk cl
 clear ch cl
 have HB := Aside0.mk (Below.refl w.heap.size w)
 have H : ((some (([] : List Int) : List Int)).bind fun sg => (if sg.length + ab.length < 17592186044416 then (impl_copyBook.l0 k aa (aa.length : Int) 0 (sg ++ ab) ([] : List (List Int))) else (none))) = some (r1, r2) := h
 clear h
 obtain ⟨sg, hy329⟩ : ∃ y_ : List Int, y_ = (([] : List Int)) := ⟨_, rfl⟩
 replace H : (if sg.length + ab.length < 17592186044416 then (impl_copyBook.l0 k aa (aa.length : Int) 0 (sg ++ ab) ([] : List (List Int))) else (none)) = some (r1, r2) := by first | (rw [hy329]; with_reducible exact H) | (have H2_ := (Option.bind_some _ _).symm.trans H; rw [hy329]; with_reducible exact H2_) | (have H2_ := (Option.bind_some _ _).symm.trans H; with_reducible exact H2_) | with_reducible exact H | (rw [hy329]; exact H) | exact H
 have db5 := Aside0.mk hy329
 clear hy329
 obtain ⟨c2, H⟩ := pos_ H
 have cb8 := Aside0.mk c2
 clear c2
 obtain ⟨g2, hy332⟩ : ∃ y_ : List Int, y_ = (sg ++ ab) := ⟨_, rfl⟩
 replace H : (impl_copyBook.l0 k aa (aa.length : Int) 0 g2 ([] : List (List Int))) = some (r1, r2) := by first | (rw [hy332]; with_reducible exact H) | (have H2_ := (Option.bind_some _ _).symm.trans H; rw [hy332]; with_reducible exact H2_) | (have H2_ := (Option.bind_some _ _).symm.trans H; with_reducible exact H2_) | with_reducible exact H | (rw [hy332]; exact H) | exact H
 have em5 := Aside0.mk hy332
 clear hy332
 have H' := Aside0.mk H
 clear H
 go_enter Try.func111, Try.ntmps111
 go_wp2_with (first | ((with_reducible refine gate_dst (N := 1) rfl ?_); refine bx_ (N := 1) #[.slice af ab.length ae, .slice ah aa.length ag] 25 ?_; intro nm hg w3 hbox hb; have fm := Aside0.mk (hbox); have fu8 := Aside0.mk ((g37_ : w.heap.size ≤ nm)); have em2 := Aside0.mk ((g37_ : w.heap.size ≤ nm)); replace HB := Aside0.mk (below_step (lk) hb); clear hb hbox hg) | ((with_reducible refine gate_dst (N := 2) rfl ?_); refine bx_ (N := 2) #[.slice none 0 0, .slice none 0 0] 25 ?_; intro lb hg w4 hbox hb; have f4 := Aside0.mk (hbox); have fu9 := Aside0.mk ((g37_ : w.heap.size ≤ lb)); have em3 := Aside0.mk ((g37_ : w.heap.size ≤ lb)); replace HB := Aside0.mk (below_step (lk) hb); have db6 := Aside0.mk ((by rw [hg]; exact Nat.ne_of_lt (blk_lt (g := nm) (o := .cells #[.slice af ab.length ae, .slice ah aa.length ag] 25 (0, 0)) (uf0_ fm)) : nm ≠ lb)); have db7 := Aside0.mk ((by rw [hg]; exact Nat.ne_of_gt (blk_lt (g := nm) (o := .cells #[.slice af ab.length ae, .slice ah aa.length ag] 25 (0, 0)) (uf0_ fm)) : lb ≠ nm)); replace fm := bb_ fm hb; clear hb hbox hg) | ((with_reducible refine gate_dst (N := 6) rfl ?_); refine Kd.R_lit (Kd.int .i64) _ 3 ?hg (N := 6) ?hd (xs := ([] : List Int)) (inner := []) (ok := fun _ => True) (okp := fun _ => True) ?hr ?hp (fun _ hk => hk) trivial (Below.refl _ _) (Nat.le_refl _) (by simp) ?_; (case hd => rfl); (case hg => rfl); (case hr => first | (go_simp; done) | (go_simp; rfl)); (case hp => exact (Reps.none _ _)); intro em6 w5 qy hb hg_ hnew_; clear hg_ hnew_; (first | rw [← db5.out] at qy | (simp only [Int.reduceToNat] at qy; rw [← db5.out] at qy)); have bh0 := Aside0.mk (Kd.R_lower qy (below_size (lk))); replace fm := bb_ fm hb; replace f4 := bb_ f4 hb; replace HB := Aside0.mk (below_step (lk) hb); clear hb qy; have cb9 := db6.out; have cc0 := db7.out; obtain ⟨ko, kr, ks, kt⟩ := blk2_ fm) | ((with_reducible refine gate_builtin (b := .append) (xs := #[.tmp 6, .tmp 8]) rfl ?_); at_builtin; refine Kd.R_append_rows (Kd.int .i64) (w0 := w) w.heap.size rfl (.tmp 6) (.tmp 8) 22 3 (.int .i64 0) 8 rfl Try.underlying22 info3 rfl (by decide) (by omega) em6 sg ab _ _ _ (fun _ => True) (fun _ => False) rfl rfl ?aO ?aR (fun _ _ h => h) (fun _ h => h.elim) ?aF ?aB ?aS ?aL ?_; (case aR => exact uf2_ b7); (case aB => exact (lk)); (case aF => exact (fun _ _ => trivial)); (case aO => exact (uf1_ bh0)); (case aS => exact (below_size (lk))); (case aL => have := cb8.out; omega); intro fv0 w9 ho hb hg hat; rw [← em5.out] at ho; replace fm := Aside0.mk (blk_grown (g := nm) (o := .cells #[.slice af ab.length ae, .slice ah aa.length ag] 25 (0, 0)) (uf0_ fm) hg (Kd.R_ne bh0.out fm.out (by decide))); replace f4 := Aside0.mk (blk_grown (g := lb) (o := .cells #[.slice none 0 0, .slice none 0 0] 25 (0, 0)) (uf0_ f4) hg (Kd.R_ne bh0.out f4.out (by decide))); replace HB := Aside0.mk (hb); have bh1 := Aside0.mk (ho); clear bh0; clear ho hb hg hat; obtain ⟨cy, cz, p8⟩ := Kd.R_slice bh1.out; subst p8) | ((with_reducible refine gate_dst (N := 3) rfl ?_); refine bx_ (N := 3) #[.slice none 0 0, .slice none 0 0] 25 ?_; intro lw hg w11 hbox hb; replace bh1 := Aside0.mk (Kd.R_below (uf1_ bh1) hb); have fa := Aside0.mk (hbox); have fv1 := Aside0.mk ((g37_ : w.heap.size ≤ lw)); have em4 := Aside0.mk ((g37_ : w.heap.size ≤ lw)); replace HB := Aside0.mk (below_step (lk) hb); have ag5 := Aside0.mk ((by rw [hg]; exact Nat.ne_of_lt (blk_lt (g := nm) (o := .cells #[.slice af ab.length ae, .slice ah aa.length ag] 25 (0, 0)) (uf0_ fm)) : nm ≠ lw)); have cc1 := Aside0.mk ((by rw [hg]; exact Nat.ne_of_gt (blk_lt (g := nm) (o := .cells #[.slice af ab.length ae, .slice ah aa.length ag] 25 (0, 0)) (uf0_ fm)) : lw ≠ nm)); replace fm := bb_ fm hb; have ag6 := Aside0.mk ((by rw [hg]; exact Nat.ne_of_lt (blk_lt (g := lb) (o := .cells #[.slice none 0 0, .slice none 0 0] 25 (0, 0)) (uf0_ f4)) : lb ≠ lw)); have cc2 := Aside0.mk ((by rw [hg]; exact Nat.ne_of_gt (blk_lt (g := lb) (o := .cells #[.slice none 0 0, .slice none 0 0] 25 (0, 0)) (uf0_ f4)) : lw ≠ lb)); replace f4 := bb_ f4 hb; clear hb hbox hg; have bg8 := cc1.out; have bg9 := ag5.out; have bb2 := cc2.out; have bb3 := ag6.out; obtain ⟨ad5, ad6, ad7, ad8⟩ := blk2_ fa; obtain ⟨yb, yc, yd, ye⟩ := blk2_ fm))
 go_loopg [14] k (fun kq v14 w' => ∃ (ml : Int) (pk : List (List Int)) (qz : Value), v14 = .int .i64 ml ∧ Aside0 (impl_copyBook.l0 kq aa (aa.length : Int) ml g2 pk = some (r1, r2)) ∧ Aside0 (kq ≤ k) ∧ Aside0 (Kd.R (Kd.int .i64) 3 w' w.heap.size (fun _ => True) (.slice cy g2.length cz) g2) ∧ Aside0 (Kd.S (Kd.slice 3 (Kd.int .i64)) 22 w' w.heap.size (fun k_ => some k_ ≠ ((.slice cy g2.length cz) : Value).ownBlock) qz pk) ∧ Aside0 (w'.heap[nm]? = some (.cells #[(.slice af ab.length ae), (.slice ah aa.length ag)] 25 (0, 0))) ∧ Aside0 (w'.heap[lb]? = some (.cells #[(.slice none 0 0), (.slice none 0 0)] 25 (0, 0))) ∧ Aside0 (w'.heap[lw]? = some (.cells #[(.slice cy g2.length cz), qz] 25 (0, 0))) ∧ Aside0 (Below w.heap.size w w'))
 case atStart => exact ⟨(0), (([] : List (List Int))), (.slice none 0 0), (g2_), H', ⟨Nat.le_refl _⟩, ⟨by (with_reducible repeat (first | apply Kd.R_alloc | apply Kd.R_drewN | apply Kd.R_drew)); exact Kd.R_mono (Kd.R_far (p := ⟨lw, 1, none⟩) (Kd.R_far (p := ⟨lw, 0, none⟩) (Kd.R_types bh1.out fa.out (by decide)) (fun _ hk => hk.2) (.slice cy g2.length cz)) (fun _ hk => hk.2) (.slice none 0 0)) (fun _ hk => trivial)⟩, ⟨g20_⟩, ⟨by (with_reducible repeat (first | refine blk_drewN ?_ _ | refine blk_drew ?_ | refine blk_alloc ?_ _)); refine blk_far ?_ ag5.out _; refine blk_far ?_ ag5.out _; exact uf0_ fm⟩, ⟨by (with_reducible repeat (first | refine blk_drewN ?_ _ | refine blk_drew ?_ | refine blk_alloc ?_ _)); refine blk_far ?_ ag6.out _; refine blk_far ?_ ag6.out _; exact uf0_ f4⟩, ⟨by (with_reducible repeat (first | refine blk_drewN ?_ _ | refine blk_drew ?_ | refine blk_alloc ?_ _)); refine blk_put (cs := #[.slice cy g2.length cz, .slice none 0 0]) ?_ 1 _ rfl; refine blk_put (cs := #[.slice none 0 0, .slice none 0 0]) ?_ 0 _ rfl; exact uf0_ fa⟩, ⟨lk⟩⟩
 case round =>
  clear H'
  try clear c1
  try clear c2
  try clear p2
  try clear c7
  try clear d5
  try clear d2
  try clear fu
  try clear ad5
  try clear ad6
  try clear yb
  try clear yc
  try clear ko
  try clear kr
  try clear ad7
  try clear ad8
  try clear yd
  try clear ye
  try clear ks
  try clear kt
  obtain ⟨ml, pk, qz, rfl, HA, HK1, nn, lc, fm, f4, fa, HB⟩ := hrel
  cases gk with
  | zero => exact absurd HA.out (by simp [impl_copyBook.l0])
  | succ k1 =>
   have H := HA.out
   clear HA
   simp only [impl_copyBook.l0] at H
   by_cases ed : ml < (aa.length : Int)
   ·rw [if_pos ed] at H
    have o3 := decide_eq_true ed
    clear ed
    obtain ⟨ep, H⟩ := pos_ H
    have o0 := decide_eq_true ep
    clear ep
    obtain ⟨lp, H⟩ := pos_ H
    have am6 := decide_eq_true lp
    clear lp
    obtain ⟨aa7, hy337⟩ : ∃ y_ : List Int, y_ = (([] : List Int)) := ⟨_, rfl⟩
    replace H : (if aa7.length + (rd_L1 aa ml).length < 17592186044416 then (if pk.length < 5864062014805 then (impl_copyBook.l0 k1 aa (aa.length : Int) (wrap64 (ml + 1)) g2 (pk ++ [(aa7 ++ (rd_L1 aa ml))])) else (none)) else (none)) = some (r1, r2) := by first | (rw [hy337]; with_reducible exact H) | (have H2_ := (Option.bind_some _ _).symm.trans H; rw [hy337]; with_reducible exact H2_) | (have H2_ := (Option.bind_some _ _).symm.trans H; with_reducible exact H2_) | with_reducible exact H | (rw [hy337]; exact H) | exact H
    have db8 := Aside0.mk hy337
    clear hy337
    obtain ⟨dr, H⟩ := pos_ H
    have em7 := Aside0.mk dr
    clear dr
    obtain ⟨aq9, hy340⟩ : ∃ y_ : List Int, y_ = (aa7 ++ (rd_L1 aa ml)) := ⟨_, rfl⟩
    replace H : (if pk.length < 5864062014805 then (impl_copyBook.l0 k1 aa (aa.length : Int) (wrap64 (ml + 1)) g2 (pk ++ [aq9])) else (none)) = some (r1, r2) := by first | (rw [hy340]; with_reducible exact H) | (have H2_ := (Option.bind_some _ _).symm.trans H; rw [hy340]; with_reducible exact H2_) | (have H2_ := (Option.bind_some _ _).symm.trans H; with_reducible exact H2_) | with_reducible exact H | (rw [hy340]; exact H) | exact H
    have em8 := Aside0.mk hy340
    clear hy340
    obtain ⟨fk, H⟩ := pos_ H
    have bf5 := Aside0.mk fk
    clear fk
    obtain ⟨ar0, hy343⟩ : ∃ y_ : List (List Int), y_ = (pk ++ [aq9]) := ⟨_, rfl⟩
    replace H : (impl_copyBook.l0 k1 aa (aa.length : Int) (wrap64 (ml + 1)) g2 ar0) = some (r1, r2) := by first | (rw [hy343]; with_reducible exact H) | (have H2_ := (Option.bind_some _ _).symm.trans H; rw [hy343]; with_reducible exact H2_) | (have H2_ := (Option.bind_some _ _).symm.trans H; with_reducible exact H2_) | with_reducible exact H | (rw [hy343]; exact H) | exact H
    have em9 := Aside0.mk hy343
    clear hy343
    have H' := Aside0.mk H
    clear H
    have cc3 : 0 ≤ (ml : Int) := of_decide_eq_true (g0_)
    have cc4 : ml < (aa.length : Int) := of_decide_eq_true (g0_)
    obtain ⟨db9, fv2, fv3, en0, dc0, dc1, dc2⟩ := at_L1 bz.out ml cc3 cc4
    cases en0
    replace dc0 := cl_ HB dc0
    have en1 := Aside0.mk dc2
    have fv4 := Aside0.mk dc1
    clear dc2 dc1
    replace cc3 := eq_true cc3
    replace cc4 := eq_true cc4
    try go_wp2
    replace nn := Aside0.mk (Kd.R_drew nn.out)
    replace lc := Aside0.mk (Kd.S_drew lc.out)
    replace fm := Aside0.mk (blk_drew fm.out)
    replace f4 := Aside0.mk (blk_drew f4.out)
    replace fa := Aside0.mk (blk_drew fa.out)
    replace HB := Aside0.mk (below_drew1 HB.out)
    refine start_ (n := 9) (S := fun w' => w'.cell? ⟨lw, 0, none⟩ = some (.slice cy g2.length cz) ∧ w'.cell? ⟨lw, 1, none⟩ = some (qz)) (ds := [8]) (tl_ 9 0) (g1_) rfl (g1_) ⟨(blk_cell fa.out 0).trans rfl, (blk_cell fa.out 1).trans rfl⟩ (fun hHeld => ?_); refine with_tabW impl_copyBook.tab5 impl_copyBook.bits5 (fun HT_ HW_ => ?_)
    generalize wr.drew = we at nn lc fm f4 fa HB hHeld ⊢
    refine pw_ 0 18 (tl_ 9 1) rfl rfl ?_
    refine pw_ 3 21 (tl_ 9 9) rfl rfl ?_
    refine tk0_ 1 19 (tl_ 9 11) rfl rfl hHeld ?_
    refine one_ (i := 2) (N := some 20) (tl_ 9 15) rfl rfl (one_of HT_.out (g1_)) (by decide) (fun K hK => ?_)
    refine Kd.R_lit_step (Kd.int .i64) _ 3 ?hg (N := 20) ?hd (xs := ([] : List Int)) (inner := []) (ok := fun _ => True) (okp := fun _ => True) ?hr ?hp (fun _ hk => hk) trivial (Below.refl _ _) (Nat.le_refl _) (by simp) ?_; (case hd => rfl); (case hg => rfl); (case hr => first | (go_simp; done) | (go_simp; rfl)); (case hp => exact (Reps.none _ _))
    intro en2 w22 i0 hb hg_ hnew_
    clear hg_ hnew_
    (first | rw [← db8.out] at i0 | (simp only [Int.reduceToNat] at i0; rw [← db8.out] at i0))
    replace lc := Aside0.mk (Kd.S_elder' (uf3_ lc) (Kd.R_base i0) hb)
    have ar1 := Aside0.mk (Kd.R_lower (Kd.R_new' i0 (Kd.R_lt (uf1_ nn))) (below_size (lk)))
    replace nn := Aside0.mk (Kd.R_elder' (uf1_ nn) (Kd.R_base i0) hb)
    replace fm := bb_ fm hb
    replace f4 := bb_ f4 hb
    replace fa := bb_ fa hb
    replace HB := Aside0.mk (below_step (lk) hb)
    clear hb i0
    refine hK.out _ _ ⟨(blk_cell fa.out 0).trans rfl, (blk_cell fa.out 1).trans rfl⟩ (fun hHeld => ?_)
    clear hK K
    refine nm_ ?_
    refine one_ (i := 4) (N := some 22) (tl_ 9 31) rfl rfl (one_of HT_.out (g1_)) (by decide) (fun K hK => ?_)
    refine Kd.R_append_rows_step (Kd.int .i64) (w0 := w) w.heap.size (by rfl) (.tmp 20) (.tmp 21) 22 3 (.int .i64 0) 8 rfl Try.underlying22 info3 rfl (by decide) (by omega) en2 aa7 (rd_L1 aa ml) _ _ _ (fun k_ => some k_ ≠ (.slice cy g2.length cz : Value).ownBlock) (fun _ => False) rfl rfl ?aO ?aR (fun _ _ h => h) (fun _ h => h.elim) ?aF ?aB ?aS ?aL ?_
    (case aR => exact uf2_ en1)
    (case aB => exact (lk))
    (case aF => exact (fun k_ hk => Kd.fresh' (Kd.R_lt (uf1_ nn)) k_ hk))
    (case aO => exact (by (with_reducible repeat (first | apply Kd.R_alloc | apply Kd.R_drewN | apply Kd.R_drew)); exact Kd.R_mono ar1.out (fun _ hk => hk.2)))
    (case aS => exact (below_size (lk)))
    (case aL => have := em7.out; omega)
    intro fv5 w24 ho hb hg hat
    rw [← em8.out] at ho
    replace nn := Aside0.mk (Kd.R_after (ok := (fun _ => True)) (uf1_ nn) hg hat)
    replace lc := Aside0.mk (Kd.S_after (ok := (fun k_ => some k_ ≠ (.slice cy g2.length cz : Value).ownBlock)) (uf3_ lc) hg hat)
    replace fm := Aside0.mk (blk_grown (g := nm) (o := .cells #[.slice af ab.length ae, .slice (some db9) aa.length ag] 25 (0, 0)) (uf0_ fm) hg (Kd.R_ne ar1.out fm.out (by decide)))
    replace f4 := Aside0.mk (blk_grown (g := lb) (o := .cells #[.slice none 0 0, .slice none 0 0] 25 (0, 0)) (uf0_ f4) hg (Kd.R_ne ar1.out f4.out (by decide)))
    replace fa := Aside0.mk (blk_grown (g := lw) (o := .cells #[.slice cy g2.length cz, qz] 25 (0, 0)) (uf0_ fa) hg (Kd.R_ne ar1.out fa.out (by decide)))
    replace HB := Aside0.mk (hb)
    have bh2 := Aside0.mk (ho)
    clear ar1
    clear ho hb hg hat
    obtain ⟨ar2, ar3, ag7⟩ := Kd.R_slice bh2.out
    (first | subst ag7 | (injection ag7 with f1_ f2_ f3_; have f4_ := f1_.symm; have f5_ := f3_.symm; clear f1_ f2_ f3_; subst f4_; subst f5_))
    refine hK.out _ _ ⟨(blk_cell fa.out 0).trans rfl, (blk_cell fa.out 1).trans rfl⟩ (fun hHeld => ?_)
    clear hK K
    refine nm_ ?_
    refine one_ (i := 5) (N := some 23) (tl_ 9 63) rfl rfl (one_of HT_.out (g1_)) (by decide) (fun K hK => ?_)
    refine value_ (w1 := ?_) (v := ?_) (by rfl) rfl ?_ ?_
    rotate_left 2
    ·go_simp
     constructor
     ·rfl
     ·rfl
    refine hK.out _ _ ⟨(blk_cell (blk_alloc fa.out _) 0).trans rfl, (blk_cell (blk_alloc fa.out _) 1).trans rfl⟩ (fun hHeld => ?_)
    clear hK K
    refine nm_ ?_
    refine one_ (i := 6) (N := some 24) (tl_ 9 127) rfl rfl (one_of HT_.out (g1_)) (by decide) (fun K hK => ?_)
    refine Kd.S_append_step (Kd.slice 3 (Kd.int .i64)) (w0 := w) w.heap.size (by rfl) (.tmp 19) (.tmp 23) 23 22 (.slice none 0 0) 24 rfl Try.underlying23 info22 rfl (by decide) (by omega) qz pk aq9 [.slice ar2 aq9.length ar3] (fun k_ => some k_ ≠ (.slice cy g2.length cz : Value).ownBlock) (fun k_ => some k_ = (.slice ar2 aq9.length ar3 : Value).ownBlock) rfl rfl ?aP (fun k_ hk_ => ((Kd.R_mono (ok' := fun k_ => ((fun k_ => some k_ ≠ (.slice cy g2.length cz : Value).ownBlock)) k_ ∧ some k_ ≠ (qz : Value).ownBlock) (Kd.R_apart' (bh2.out) (Kd.S_typed lc.out) (by decide)) (fun k_ hk => ⟨hk.1, hk.2⟩))).1 k_ hk_.symm) ?aF ?aO ?aB ?aS ?aL ?_
    (case aP => exact Kd.M_row (Kd.R_mono (Kd.R_tight rfl (Kd.R_mono (ok' := fun k_ => ((fun k_ => some k_ ≠ (.slice cy g2.length cz : Value).ownBlock)) k_ ∧ some k_ ≠ (qz : Value).ownBlock) (Kd.R_apart' (bh2.out) (Kd.S_typed lc.out) (by decide)) (fun k_ hk => ⟨hk.1, hk.2⟩))) (fun _ h_ => h_)))
    (case aB => exact (lk))
    (case aF => exact (fun k_ hk => Kd.fresh' (Kd.R_lt (uf1_ nn)) k_ hk))
    (case aO => exact (by (with_reducible repeat (first | apply Kd.S_alloc | apply Kd.S_drewN | apply Kd.S_drew)); exact Kd.S_mono lc.out (fun k_ hk => ⟨hk.1, fun e_ => hk.2 e_⟩)))
    (case aS => exact (below_size (lk)))
    (case aL => have := bf5.out; omega)
    intro fv6 pa ho hb hg hat
    rw [← em9.out] at ho
    replace nn := Aside0.mk (Kd.R_over' (uf1_ nn) (Kd.S_typed (uf3_ lc)) (by decide) hg)
    replace fm := Aside0.mk (blk_grown (g := nm) (o := .cells #[.slice af ab.length ae, .slice (some db9) aa.length ag] 25 (0, 0)) (uf0_ fm) hg (Kd.S_ne lc.out fm.out (by decide)))
    replace f4 := Aside0.mk (blk_grown (g := lb) (o := .cells #[.slice none 0 0, .slice none 0 0] 25 (0, 0)) (uf0_ f4) hg (Kd.S_ne lc.out f4.out (by decide)))
    replace fa := Aside0.mk (blk_grown (g := lw) (o := .cells #[.slice cy g2.length cz, qz] 25 (0, 0)) (uf0_ fa) hg (Kd.S_ne lc.out fa.out (by decide)))
    replace HB := Aside0.mk (hb)
    have dc3 := Aside0.mk (ho)
    clear lc bh2
    clear ho hb hg hat
    obtain ⟨ag8, ag9, ar4⟩ := Kd.S_slice dc3.out
    (first | subst ar4 | (injection ar4 with f1_ f2_ f3_; have f4_ := f1_.symm; have f5_ := f3_.symm; clear f1_ f2_ f3_; subst f4_; subst f5_))
    refine hK.out _ _ ⟨(blk_cell fa.out 0).trans rfl, (blk_cell fa.out 1).trans rfl⟩ (fun hHeld => ?_)
    clear hK K
    refine nm_ ?_
    refine pw_ 7 25 (tl_ 9 255) rfl rfl ?_
    refine last_ (i := 8) (N := none) (tl_ 9 511) rfl rfl (one_of HT_.out (g1_)) (by decide) (fun K hK => ?_)
    have fv7 : pa.cell? ⟨lw, 1, none⟩ = some (qz) := (blk_cell fa.out 1).trans rfl
    have fv8 := blk_frozen fa.out 1
    have fv9 := ag5.out
    have fw0 := ag6.out
    have fw1 := cc1.out
    have fw2 := cc2.out
    refine skip_ (w1 := ?_) (by rfl) rfl ?_ ?_
    rotate_left
    ·go_simp
     rfl
    refine hK.out _ _ ?_
    clear hK K
    refine done_ (done_of HT_.out (g1_)) ?_
    try go_wp2
    go_roundg k1
    case measure => have := HK1.out; omega
    case rel => exact ⟨(wrap64 (ml + 1)), (ar0), (.slice ag8 ar0.length ag9), (g2_), H', ⟨g9_⟩, ⟨by (with_reducible repeat (first | apply Kd.R_alloc | apply Kd.R_drewN | apply Kd.R_drew)); exact Kd.R_mono (Kd.R_far (p := ⟨lw, 1, none⟩) (Kd.R_types nn.out fa.out (by decide)) (fun _ hk => hk.2) (.slice ag8 ar0.length ag9)) (fun _ hk => trivial)⟩, ⟨by (with_reducible repeat (first | apply Kd.S_alloc | apply Kd.S_drewN | apply Kd.S_drew)); exact Kd.S_mono (Kd.S_far (p := ⟨lw, 1, none⟩) (Kd.S_types dc3.out fa.out (by decide)) (fun _ hk => hk.2) (.slice ag8 ar0.length ag9)) (fun _ hk => hk.1)⟩, ⟨by (with_reducible repeat (first | refine blk_drewN ?_ _ | refine blk_drew ?_ | refine blk_alloc ?_ _)); refine blk_far ?_ ag5.out _; exact uf0_ fm⟩, ⟨by (with_reducible repeat (first | refine blk_drewN ?_ _ | refine blk_drew ?_ | refine blk_alloc ?_ _)); refine blk_far ?_ ag6.out _; exact uf0_ f4⟩, ⟨by (with_reducible repeat (first | refine blk_drewN ?_ _ | refine blk_drew ?_ | refine blk_alloc ?_ _)); refine blk_put (cs := #[.slice cy g2.length cz, qz]) ?_ 1 _ rfl; exact uf0_ fa⟩, ⟨lk⟩⟩
   ·rw [if_neg ed] at H
    have o3 := decide_eq_false ed
    clear ed
    simp only [Option.some.injEq, Prod.mk.injEq] at H
    obtain ⟨rfl, rfl⟩ := H
    have cc5 := cc1.out
    have cc6 := ag5.out
    have dc4 := cc2.out
    have dc5 := ag6.out
    obtain ⟨cx1, cx2, cx3, cx4⟩ := blk2_ fa
    have en3 := db7.out
    have en4 := db6.out
    obtain ⟨en5, en6, en7, en8⟩ := blk2_ f4
    obtain ⟨bh3, ar5, cc7⟩ := Kd.S_slice lc.out
    subst cc7
    go_wp2
    refine bodyPost_ret (results_cell_row rfl _ _ lb 25 #[.slice cy g2.length cz, .slice bh3 pk.length ar5] (0, 0) _ rfl (by (with_reducible repeat (first | refine blk_drewN ?_ _ | refine blk_drew ?_ | refine blk_alloc ?_ _)); refine blk_put (cs := #[.slice cy g2.length cz, .slice none 0 0]) ?_ 1 _ rfl; refine blk_put (cs := #[.slice none 0 0, .slice none 0 0]) ?_ 0 _ rfl; exact uf0_ f4) Try.underlying25 rfl (g1_)) rfl ?_
    exact ⟨_, _, g4_, by (with_reducible repeat (first | apply Kd.R_alloc | apply Kd.R_drewN | apply Kd.R_drew)); exact Kd.R_mono (Kd.R_far (p := ⟨lb, 1, none⟩) (Kd.R_far (p := ⟨lb, 0, none⟩) (Kd.R_types nn.out f4.out (by decide)) (fun _ hk => hk.2) (.slice cy g2.length cz)) (fun _ hk => hk.2) (.slice bh3 pk.length ar5)) (fun _ hk => trivial), by (with_reducible repeat (first | apply Kd.S_alloc | apply Kd.S_drewN | apply Kd.S_drew)); exact Kd.S_mono (Kd.S_far (p := ⟨lb, 1, none⟩) (Kd.S_far (p := ⟨lb, 0, none⟩) (Kd.S_types lc.out f4.out (by decide)) (fun _ hk => hk.2) (.slice cy g2.length cz)) (fun _ hk => hk.2) (.slice bh3 pk.length ar5)) (fun _ hk => hk.1), lk⟩
mutual
def impl_struckOut.l0 : Nat → List Int → Int → List Int → Int → Int → List Int → List (List Int) → List Int → List (List Int) → Option (List Int × (List (List Int)))
 | 0, _, _, _, _, _, _, _, _, _ => none
 | k + 1, x1, x6, gi, ir, et, en9, bh4, ar6, ug => if et < ir then (if 0 ≤ et then (if et < (gi.length : Int) then (if 0 ≤ (rd gi et) then (if (rd gi et) < (bh4.length : Int) then (if (x1.length : Int) = 0 then (none) else (if 0 ≤ (Int.tmod (wrap64 (et + 1)) (x1.length : Int)) then (if (Int.tmod (wrap64 (et + 1)) (x1.length : Int)) < (x1.length : Int) then (if 0 ≤ (rd x1 (Int.tmod (wrap64 (et + 1)) (x1.length : Int))) then (if (rd x1 (Int.tmod (wrap64 (et + 1)) (x1.length : Int))) < ((rd_L1 bh4 (rd gi et)).length : Int) then (impl_struckOut.l0 k x1 (mn x6 (rd (rd_L1 bh4 (rd gi et)) (rd x1 (Int.tmod (wrap64 (et + 1)) (x1.length : Int))))) gi ir (wrap64 (et + 1)) en9 bh4 ar6 ug) else (none)) else (none)) else (none)) else (none))) else (none)) else (none)) else (none)) else (none)) else (impl_struckOut.l1 k x1 x6 x1 (x1.length : Int) 0 ar6 ug)
def impl_struckOut.l1 : Nat → List Int → Int → List Int → Int → Int → List Int → List (List Int) → Option (List Int × (List (List Int)))
 | 0, _, _, _, _, _, _, _ => none
 | k + 1, x1, x6, wv, x39, lx, ar6, ug => if lx < x39 then (if 0 ≤ lx then (if lx < (wv.length : Int) then (if 0 ≤ (rd wv lx) then (if (rd wv lx) < (ug.length : Int) then (if (x1.length : Int) = 0 then (none) else (if 0 ≤ (Int.tmod (wrap64 (lx + 1)) (x1.length : Int)) then (if (Int.tmod (wrap64 (lx + 1)) (x1.length : Int)) < (x1.length : Int) then (if 0 ≤ (rd x1 (Int.tmod (wrap64 (lx + 1)) (x1.length : Int))) then (if (rd x1 (Int.tmod (wrap64 (lx + 1)) (x1.length : Int))) < ((rd_L1 ug (rd wv lx)).length : Int) then (impl_struckOut.l1 k x1 x6 wv x39 (wrap64 (lx + 1)) ar6 (ug.set ((rd wv lx) : Int).toNat ((rd_L1 ug (rd wv lx)).set ((rd x1 (Int.tmod (wrap64 (lx + 1)) (x1.length : Int))) : Int).toNat (wrap64 ((rd (rd_L1 ug (rd wv lx)) (rd x1 (Int.tmod (wrap64 (lx + 1)) (x1.length : Int)))) - x6))))) else (none)) else (none)) else (none)) else (none))) else (none)) else (none)) else (none)) else (none)) else (some (ar6, ug))
end
def impl_struckOut.f (k : Nat) (ab : List Int) (aa : List (List Int)) (l1 : List Int) : Option (List Int × (List (List Int))) := (impl_copyBook.f k ab aa).bind fun bt348 => (impl_struckOut.l0 k l1 9 l1 (l1.length : Int) 0 ab aa bt348.1 bt348.2)
theorem impl_struckOut.mq {p : Prop} (h : p := by
 repeat' first
 | (with_reducible exact ih0 _ _ _ _ _ _ _ _ _)
 | (with_reducible exact ih1 _ _ _ _ _ _ _)
 | (with_reducible exact impl_copyBook.mono _ _ _)
 | (with_reducible exact LeO.refl _)
 | (with_reducible exact LeO.none _)
 | (with_reducible refine LeO.ite ?_ ?_)
 | (with_reducible refine LeO.bind ?_ (fun _ => ?_))
 | exact ih0 _ _ _ _ _ _ _ _ _
 | exact ih1 _ _ _ _ _ _ _
 | exact impl_copyBook.mono _ _ _
 | exact LeO.none _
 | refine LeO.ite ?_ ?_
 | refine LeO.bind ?_ (fun _ => ?_)) : p := h
theorem impl_struckOut.mono_l : ∀ k, (∀ y0 y1 y2 y3 y4 y5 y6 y7 y8, LeO (impl_struckOut.l0 k y0 y1 y2 y3 y4 y5 y6 y7 y8) (impl_struckOut.l0 (k + 1) y0 y1 y2 y3 y4 y5 y6 y7 y8)) ∧ (∀ y0 y1 y2 y3 y4 y5 y6, LeO (impl_struckOut.l1 k y0 y1 y2 y3 y4 y5 y6) (impl_struckOut.l1 (k + 1) y0 y1 y2 y3 y4 y5 y6))
 | 0 => ⟨fun _ _ _ _ _ _ _ _ _ r h => by simp [impl_struckOut.l0] at h, fun _ _ _ _ _ _ _ r h => by simp [impl_struckOut.l1] at h⟩
 | k + 1 => by
  obtain ⟨ih0, ih1⟩ := impl_struckOut.mono_l k
  refine ⟨?_, ?_⟩
  ·intro y0 y1 y2 y3 y4 y5 y6 y7 y8
   unfold impl_struckOut.l0
   exact impl_struckOut.mq
  ·intro y0 y1 y2 y3 y4 y5 y6
   unfold impl_struckOut.l1
   exact impl_struckOut.mq
theorem impl_struckOut.mono : ∀ a0 a1 a2 k, LeO (impl_struckOut.f k a0 a1 a2) (impl_struckOut.f (k + 1) a0 a1 a2) := by
 intro a0 a1 a2 k
 obtain ⟨ih0, ih1⟩ := impl_struckOut.mono_l k
 unfold impl_struckOut.f
 exact impl_struckOut.mq
def impl_struckOut.T6 : Bool × List (List Nat × List Nat) := (true, [([], []), ([], []), ([1], [1]), ([], []), ([2, 3], [2, 3]), ([4], [4]), ([], []), ([], []), ([7], [7]), ([], []), ([9], [9]), ([8, 10], [8, 10]), ([6, 11], [6, 11]), ([12], [12]), ([5, 13], [5, 13]), ([14], [14]), ([0, 15], [0, 15]), ([16, 0, 1, 2, 3, 4, 5, 6, 7, 8, 9, 10, 11, 12, 13, 14, 15, 16], [0, 16])])
def impl_struckOut.B6 : List Nat := [0, 0, 2, 0, 14, 30, 0, 0, 128, 0, 512, 1920, 4032, 8128, 16382, 32766, 65535, 131071]
theorem impl_struckOut.tab6 : rtab .any (opsOf Try.f97 6) = impl_struckOut.T6 := by kernel_rfl
theorem impl_struckOut.bits6 : waitsOk impl_struckOut.T6.2 impl_struckOut.B6 = true := by kernel_rfl
def impl_struckOut.T11 : Bool × List (List Nat × List Nat) := (true, [([], []), ([0], [0]), ([], []), ([1, 2], [1, 2]), ([3], [3]), ([], []), ([], []), ([6], [6]), ([], []), ([8], [8]), ([7, 9], [7, 9]), ([5, 10], [5, 10]), ([11], [11]), ([4, 12], [4, 12]), ([13], [13]), ([], []), ([14, 15], [14, 15]), ([4, 12, 0, 1, 2, 3, 4, 5, 6, 7, 8, 9, 10, 11, 12, 13, 14, 15, 16], [4, 12]), ([17, 16, 0, 1, 2, 3, 4, 5, 6, 7, 8, 9, 10, 11, 12, 13, 14, 15, 16], [16, 17])])
def impl_struckOut.B11 : List Nat := [0, 1, 0, 7, 15, 0, 0, 64, 0, 256, 960, 2016, 4064, 8191, 16383, 0, 65535, 131071, 262143]
theorem impl_struckOut.tab11 : rtab .any (opsOf Try.f97 11) = impl_struckOut.T11 := by kernel_rfl
theorem impl_struckOut.bits11 : waitsOk impl_struckOut.T11.2 impl_struckOut.B11 = true := by kernel_rfl
theorem ps {p : Prop} (h : p := by repeat (first | (with_reducible first | exact HB.out | apply below_alloc | apply pw_below_drewN | apply below_drew1 | refine below_set ?_ eo0.out | refine below_set ?_ eo1.out | refine below_set ?_ eo2.out | refine below_set ?_ GB39.out) | exact HB.out)) : p := h
set_option maxHeartbeats 8000000 in
set_option maxRecDepth 100000 in
theorem impl_struckOut.calls (k : Nat) (af : Option Addr) (ae : Nat) (ab : List Int) (ah : Option Addr) (ag : Nat) (aa : List (List Int)) (A1 : Option Addr) (c1 : Nat) (l1 : List Int) (r1 : List Int) (r2 : List (List Int)) (w : World) (cg : Kd.C (Kd.int .i64) w af ab.length ab) (ck : ab.length ≤ ae) (ch : Kd.C (Kd.slice 3 (Kd.int .i64)) w ah aa.length aa) (cl : aa.length ≤ ag) (gx : Kd.C (Kd.int .i64) w A1 l1.length l1) (gj : l1.length ≤ c1) (h : impl_struckOut.f k ab aa l1 = some (r1, r2)) :
  Calls Try.prog 97 #[.agg #[.slice af ab.length ae, .slice ah aa.length ag], .slice A1 l1.length c1] w fun e w' => ∃ v0_ v1_ : Value, e = .returned (.agg #[v0_, v1_]) ∧ Kd.R (Kd.int .i64) 3 w' w.heap.size (fun _ => True) v0_ r1 ∧ Kd.S (Kd.slice 3 (Kd.int .i64)) 22 w' w.heap.size (fun k_ => some k_ ≠ (v0_ : Value).ownBlock) v1_ r2 ∧ Below w.heap.size w w' := by
 have hu25 := Try.underlying25
 have b7 := Aside0.mk cg
 have cn := Aside0.mk ck
 clear cg ck
 have bz := Aside0.mk ch
 have cr := Aside0.mk cl
 clear ch cl
 have eh := Aside0.mk gx
 have HC1 := Aside0.mk gj
 clear gx gj
 have HB := Aside0.mk (Below.refl w.heap.size w)
 have H : ((impl_copyBook.f k ab aa).bind fun bt348 => (impl_struckOut.l0 k l1 9 l1 (l1.length : Int) 0 ab aa bt348.1 bt348.2)) = some (r1, r2) := h
 clear h
 replace H := Option.bind_eq_some_iff.mp H
 obtain ⟨⟨ot, q7⟩, ja, H⟩ := H
 try dsimp only at H
 have A3 := Aside0.mk ja
 clear ja
 have H' := Aside0.mk H
 clear H
 go_enter Try.func97, Try.ntmps97
 go_wp2_with (first | ((with_reducible refine gate_dst (N := 2) rfl ?_); refine bx_ (N := 2) #[.slice af ab.length ae, .slice ah aa.length ag] 25 ?_; intro np hg w4 hbox hb; have gd := Aside0.mk (hbox); have fw3 := Aside0.mk ((g38_ : w.heap.size ≤ np)); have eo0 := Aside0.mk ((g38_ : w.heap.size ≤ np)); replace HB := Aside0.mk (below_step (ps) hb); clear hb hbox hg) | ((with_reducible refine gate_dst (N := 4) rfl ?_); refine bx_ (N := 4) #[.slice none 0 0, .slice none 0 0] 25 ?_; intro mm hg w5 hbox hb; have hz := Aside0.mk (hbox); have fw4 := Aside0.mk ((g38_ : w.heap.size ≤ mm)); have eo1 := Aside0.mk ((g38_ : w.heap.size ≤ mm)); replace HB := Aside0.mk (below_step (ps) hb); have dc6 := Aside0.mk ((by rw [hg]; exact Nat.ne_of_lt (blk_lt (g := np) (o := .cells #[.slice af ab.length ae, .slice ah aa.length ag] 25 (0, 0)) (uf0_ gd)) : np ≠ mm)); have dc7 := Aside0.mk ((by rw [hg]; exact Nat.ne_of_gt (blk_lt (g := np) (o := .cells #[.slice af ab.length ae, .slice ah aa.length ag] 25 (0, 0)) (uf0_ gd)) : mm ≠ np)); replace gd := bb_ gd hb; clear hb hbox hg; have eo3 := dc6.out; have eo4 := dc7.out; obtain ⟨l7, l8, l9, ma⟩ := blk2_ gd) | ((with_reducible refine gate_callee (f := 111) rfl ?_); refine goesL_ (some 12) rfl rfl Try.func111 k_ rfl #[.agg #[.slice af ab.length ae, .slice ah aa.length ag]] rfl (g3_) ?_; (with_reducible refine (impl_copyBook.calls k _ _ ab _ _ aa ot q7 _ ?side1 ?side2 ?side3 ?side4 A3.out).mono ?_); (case side1 => exact uf2_ b7); (case side2 => exact cn.out); (case side3 => exact uf2_ bz); (case side4 => exact cr.out); rintro e w8 ⟨fw5, fw6, rfl, ac, b6, hb⟩; refine ⟨_, rfl, ?_⟩; have bh5 := Aside0.mk (Kd.R_lower ac (below_size (ps))); have bh6 := Aside0.mk (Kd.S_lower b6 (below_size (ps))); replace gd := bb_ gd hb; replace hz := bb_ hz hb; replace HB := Aside0.mk (below_step (ps) hb); (try clear hb); (try clear hk hi); (try clear ac); (try clear b6)) | ((with_reducible refine gate_dst (N := 5) rfl ?_); refine bx_ (N := 5) #[.slice none 0 0, .slice none 0 0] 25 ?_; intro nq hg w9 hbox hb; replace bh5 := Aside0.mk (Kd.R_below (uf1_ bh5) hb); replace bh6 := Aside0.mk (Kd.S_below (uf3_ bh6) hb); have jv := Aside0.mk (hbox); have fw7 := Aside0.mk ((g38_ : w.heap.size ≤ nq)); have eo2 := Aside0.mk ((g38_ : w.heap.size ≤ nq)); replace HB := Aside0.mk (below_step (ps) hb); have bh7 := Aside0.mk ((by rw [hg]; exact Nat.ne_of_lt (blk_lt (g := np) (o := .cells #[.slice af ab.length ae, .slice ah aa.length ag] 25 (0, 0)) (uf0_ gd)) : np ≠ nq)); have dc8 := Aside0.mk ((by rw [hg]; exact Nat.ne_of_gt (blk_lt (g := np) (o := .cells #[.slice af ab.length ae, .slice ah aa.length ag] 25 (0, 0)) (uf0_ gd)) : nq ≠ np)); replace gd := bb_ gd hb; have bh8 := Aside0.mk ((by rw [hg]; exact Nat.ne_of_lt (blk_lt (g := mm) (o := .cells #[.slice none 0 0, .slice none 0 0] 25 (0, 0)) (uf0_ hz)) : mm ≠ nq)); have dc9 := Aside0.mk ((by rw [hg]; exact Nat.ne_of_gt (blk_lt (g := mm) (o := .cells #[.slice none 0 0, .slice none 0 0] 25 (0, 0)) (uf0_ hz)) : nq ≠ mm)); replace hz := bb_ hz hb; clear hb hbox hg; obtain ⟨cy, cz, p8⟩ := Kd.R_slice bh5.out; subst p8; have cc8 := dc8.out; have cc9 := bh7.out; have bg8 := dc9.out; have bg9 := bh8.out; obtain ⟨ol, om, oo, op⟩ := blk2_ jv; obtain ⟨an, ak, j9⟩ := Kd.S_slice bh6.out; subst j9))
 go_loopg [6, 15] k (fun kq v6 v15 w' => ∃ (fb : Int) (b8 : Int), v6 = .int .i64 fb ∧ v15 = .int .i64 b8 ∧ Aside0 (impl_struckOut.l0 kq l1 fb l1 (l1.length : Int) b8 ab aa ot q7 = some (r1, r2)) ∧ Aside0 (kq ≤ k) ∧ Aside0 (Kd.R (Kd.int .i64) 3 w' w.heap.size (fun _ => True) (.slice cy ot.length cz) ot) ∧ Aside0 (Kd.S (Kd.slice 3 (Kd.int .i64)) 22 w' w.heap.size (fun k_ => some k_ ≠ ((.slice cy ot.length cz) : Value).ownBlock) (.slice an q7.length ak) q7) ∧ Aside0 (w'.heap[np]? = some (.cells #[(.slice af ab.length ae), (.slice ah aa.length ag)] 25 (0, 0))) ∧ Aside0 (w'.heap[mm]? = some (.cells #[(.slice none 0 0), (.slice none 0 0)] 25 (0, 0))) ∧ Aside0 (w'.heap[nq]? = some (.cells #[(.slice cy ot.length cz), (.slice an q7.length ak)] 25 (0, 0))) ∧ Aside0 (Below w.heap.size w w'))
 case atStart => exact ⟨(9), (0), (g2_), (g2_), H', ⟨Nat.le_refl _⟩, ⟨by (with_reducible repeat (first | apply Kd.R_alloc | apply Kd.R_drewN | apply Kd.R_drew)); exact Kd.R_mono (Kd.R_far (p := ⟨nq, 1, none⟩) (Kd.R_far (p := ⟨nq, 0, none⟩) (Kd.R_types bh5.out jv.out (by decide)) (fun _ hk => hk.2) (.slice cy ot.length cz)) (fun _ hk => hk.2) (.slice an q7.length ak)) (fun _ hk => trivial)⟩, ⟨by (with_reducible repeat (first | apply Kd.S_alloc | apply Kd.S_drewN | apply Kd.S_drew)); exact Kd.S_mono (Kd.S_far (p := ⟨nq, 1, none⟩) (Kd.S_far (p := ⟨nq, 0, none⟩) (Kd.S_types bh6.out jv.out (by decide)) (fun _ hk => hk.2) (.slice cy ot.length cz)) (fun _ hk => hk.2) (.slice an q7.length ak)) (fun _ hk => hk.1)⟩, ⟨by (with_reducible repeat (first | refine blk_drewN ?_ _ | refine blk_drew ?_ | refine blk_alloc ?_ _)); refine blk_far ?_ bh7.out _; refine blk_far ?_ bh7.out _; exact uf0_ gd⟩, ⟨by (with_reducible repeat (first | refine blk_drewN ?_ _ | refine blk_drew ?_ | refine blk_alloc ?_ _)); refine blk_far ?_ bh8.out _; refine blk_far ?_ bh8.out _; exact uf0_ hz⟩, ⟨by (with_reducible repeat (first | refine blk_drewN ?_ _ | refine blk_drew ?_ | refine blk_alloc ?_ _)); refine blk_put (cs := #[.slice cy ot.length cz, .slice none 0 0]) ?_ 1 _ rfl; refine blk_put (cs := #[.slice none 0 0, .slice none 0 0]) ?_ 0 _ rfl; exact uf0_ jv⟩, ⟨ps⟩⟩
 case round =>
  clear H'
  try clear c1
  try clear p2
  try clear c6
  try clear c9
  try clear d5
  try clear d2
  try clear ol
  try clear om
  try clear l7
  try clear l8
  try clear oo
  try clear op
  try clear l9
  try clear ma
  obtain ⟨fb, b8, rfl, rfl, HA, HK1, pl, kf, gd, hz, jv, HB⟩ := hrel
  cases gk with
  | zero => exact absurd HA.out (by simp [impl_struckOut.l0])
  | succ k1 =>
   have H := HA.out
   clear HA
   simp only [impl_struckOut.l0] at H
   by_cases cb : b8 < (l1.length : Int)
   ·rw [if_pos cb] at H
    have gv := decide_eq_true cb
    clear cb
    obtain ⟨ed, H⟩ := pos_ H
    have o3 := decide_eq_true ed
    clear ed
    obtain ⟨ep, H⟩ := pos_ H
    have o0 := decide_eq_true ep
    clear ep
    obtain ⟨lp, H⟩ := pos_ H
    have am6 := decide_eq_true lp
    clear lp
    obtain ⟨dr, H⟩ := pos_ H
    have rq := decide_eq_true dr
    clear dr
    by_cases fk : (l1.length : Int) = 0
    ·rw [if_pos fk] at H
     exact absurd H (by simp)
    ·rw [if_neg fk] at H
     have xq : ((l1.length : Int) == 0) = false := beq_eq_false_iff_ne.mpr fk
     have cr6 : ((l1.length : Int) != 0) = true := bne_iff_ne.mpr fk
     have eo5 : ¬ (l1 = []) := fun h_ => fk (g26_)
     obtain ⟨ji21, hji21⟩ : ∃ j_ : Int, (Int.tmod (wrap64 (b8 + 1)) (l1.length : Int)) = j_ := ⟨_, rfl⟩
     replace H : (if 0 ≤ (ji21) then (if (ji21) < (l1.length : Int) then (if 0 ≤ (rd l1 (ji21)) then (if (rd l1 (ji21)) < ((rd_L1 aa (rd l1 b8)).length : Int) then (impl_struckOut.l0 k1 l1 (mn fb (rd (rd_L1 aa (rd l1 b8)) (rd l1 (ji21)))) l1 (l1.length : Int) (wrap64 (b8 + 1)) ab aa ot q7) else (none)) else (none)) else (none)) else (none)) = some (r1, r2) := by first | (rw [hji21] at H; exact H) | (simp only [hji21] at H ⊢; exact H)
     obtain ⟨jc, H⟩ := pos_ H
     have be8 := decide_eq_true jc
     clear jc
     obtain ⟨ff, H⟩ := pos_ H
     have zc := decide_eq_true ff
     clear ff
     obtain ⟨gw, H⟩ := pos_ H
     have xw := decide_eq_true gw
     clear gw
     obtain ⟨jn, H⟩ := pos_ H
     have ad1 := decide_eq_true jn
     clear jn
     obtain ⟨ji26, hji26⟩ : ∃ j_ : Int, (mn fb (rd (rd_L1 aa (rd l1 b8)) (rd l1 (ji21)))) = j_ := ⟨_, rfl⟩
     replace H : (impl_struckOut.l0 k1 l1 ji26 l1 (l1.length : Int) (wrap64 (b8 + 1)) ab aa ot q7) = some (r1, r2) := by first | (rw [hji26] at H; exact H) | (simp only [hji26] at H ⊢; exact H)
     have hji26_ : (if (rd (rd_L1 aa (rd l1 b8)) (rd l1 (ji21))) < fb then (rd (rd_L1 aa (rd l1 b8)) (rd l1 (ji21))) else fb) = ji26 := hji26
     have H' := Aside0.mk H
     clear H
     have bh9 : 0 ≤ (b8 : Int) := of_decide_eq_true (g0_)
     have bi0 : b8 < (l1.length : Int) := of_decide_eq_true (g0_)
     obtain ⟨dd0, eo6, cd0⟩ := Kd.at_int eh.out b8 bh9 bi0
     cases eo6
     replace cd0 := cl_ HB cd0
     replace bh9 := eq_true bh9
     replace bi0 := eq_true bi0
     try go_wp2
     replace pl := Aside0.mk (Kd.R_drew pl.out)
     replace kf := Aside0.mk (Kd.S_drew kf.out)
     replace gd := Aside0.mk (blk_drew gd.out)
     replace hz := Aside0.mk (blk_drew hz.out)
     replace jv := Aside0.mk (blk_drew jv.out)
     replace HB := Aside0.mk (below_drew1 HB.out)
     have bi1 : 0 ≤ ((rd l1 b8) : Int) := of_decide_eq_true (g0_)
     have bi2 : (rd l1 b8) < (aa.length : Int) := of_decide_eq_true (g0_)
     obtain ⟨dd1, fw8, eo8, ep0, ar7, dd2, dd3⟩ := at_L1 bz.out (rd l1 b8) bi1 bi2
     have ep1 := ar7
     cases ep0
     replace ar7 := cl_ HB ar7
     have dd4 := Aside0.mk dd3
     have fw9 := Aside0.mk dd2
     clear dd3 dd2
     replace bi1 := eq_true bi1
     replace bi2 := eq_true bi2
     have bi3 : 0 ≤ ((ji21) : Int) := of_decide_eq_true (g0_)
     have bi4 : (ji21) < (l1.length : Int) := of_decide_eq_true (g0_)
     obtain ⟨ep2, ep3, ar8⟩ := Kd.at_int eh.out (ji21) bi3 bi4
     have ep4 := ar8
     obtain rfl : dd0 = ep2 := (by injection ep3)
     replace ar8 := cl_ HB ar8
     replace bi3 := eq_true bi3
     replace bi4 := eq_true bi4
     have bi5 : 0 ≤ ((rd l1 (ji21)) : Int) := of_decide_eq_true (g0_)
     have bi6 : (rd l1 (ji21)) < ((rd_L1 aa (rd l1 b8)).length : Int) := of_decide_eq_true (g0_)
     obtain ⟨dd5, ep5, ar9⟩ := Kd.at_int dd4.out (rd l1 (ji21)) bi5 bi6
     have ep6 := ar9
     cases ep5
     replace ar9 := cl_ HB ar9
     replace bi5 := eq_true bi5
     replace bi6 := eq_true bi6
     refine start_ (n := 18) (S := fun w' => w'.cell? ⟨np, 0, none⟩ = some (.slice af ab.length ae) ∧ w'.cell? ⟨np, 1, none⟩ = some (.slice (some dd1) aa.length ag) ∧ w'.cell? (dd1.add ((rd l1 b8)).toNat) = some (.slice (some dd5) (rd_L1 aa (rd l1 b8)).length eo8) ∧ w'.cell? (dd0.add ((ji21)).toNat) = some (.int .i64 (rd l1 (ji21))) ∧ w'.cell? (dd5.add ((rd l1 (ji21))).toNat) = some (.int .i64 (rd (rd_L1 aa (rd l1 b8)) (rd l1 (ji21))))) (ds := []) (tl_ 18 0) (g1_) rfl (g1_) ⟨(blk_cell gd.out 0).trans rfl, (blk_cell gd.out 1).trans rfl, ((cl_ HB ep1).trans rfl), ((cl_ HB ep4).trans rfl), ((cl_ HB ep6).trans rfl)⟩ (fun hHeld => ?_); refine with_tabW impl_struckOut.tab6 impl_struckOut.bits6 (fun HT_ HW_ => ?_)
     generalize wr.drew = w27 at pl kf gd hz jv HB dd4 ar7 ar8 ar9 hHeld ⊢
     refine pw_ 0 20 (tl_ 18 1) rfl rfl ?_
     refine pw_ 1 21 (tl_ 18 3) rfl rfl ?_
     refine pw_ 3 23 (tl_ 18 11) rfl rfl ?_
     refine pw_ 6 26 (tl_ 18 75) rfl rfl ?_
     refine pw_ 7 27 (tl_ 18 203) rfl rfl ?_
     refine pw_ 8 28 (tl_ 18 459) rfl rfl ?_
     refine pw_ 9 29 (tl_ 18 971) rfl rfl ?_
     refine pw_ 10 30 (tl_ 18 1995) rfl rfl ?_
     refine pw_ 11 31 (tl_ 18 4043) rfl rfl ?_
     refine pw_ 12 32 (tl_ 18 8139) rfl rfl ?_
     refine tk4_ 2 22 (tl_ 18 8143) rfl rfl hHeld ?_
     refine pw_ 4 24 (tl_ 18 8159) rfl rfl ?_
     refine tk4_ 5 25 (tl_ 18 8191) rfl rfl hHeld ?_
     refine tk4_ 13 33 (tl_ 18 16383) rfl rfl hHeld ?_
     refine pw_ 14 34 (tl_ 18 32767) rfl rfl ?_
     refine tk4_ 15 35 (tl_ 18 65535) rfl rfl hHeld ?_
     refine pw_ 16 36 (tl_ 18 131071) rfl rfl ?_
     refine pw_ 17 6 (tl_ 18 262143) rfl rfl ?_
     refine done_ (done_of HT_.out (g1_)) ?_
     try go_wp2
     go_roundg k1
     case measure => have := HK1.out; omega
     case rel => exact ⟨(ji26), (wrap64 (b8 + 1)), (by first | rfl | (simp; done) | (simp only [← hji26] <;> (first | rfl | simp)) | (simp [*]; done)), (g2_), H', ⟨g9_⟩, ⟨uf1_ pl⟩, ⟨uf3_ kf⟩, ⟨uf0_ gd⟩, ⟨uf0_ hz⟩, ⟨uf0_ jv⟩, ⟨ps⟩⟩
   ·rw [if_neg cb] at H
    have gv := decide_eq_false cb
    clear cb
    have H' := Aside0.mk H
    clear H
    go_wp2
    go_loopg [40] k1 (fun kq v40 w' => ∃ (ek : Int) (q8 : List Int) (f5 : List (List Int)) (ah0 : Value) (cd1 : Value), v40 = .int .i64 ek ∧ Aside0 (impl_struckOut.l1 kq l1 fb l1 (l1.length : Int) ek q8 f5 = some (r1, r2)) ∧ Aside0 (kq ≤ k1) ∧ Aside0 (Kd.R (Kd.int .i64) 3 w' w.heap.size (fun _ => True) ah0 q8) ∧ Aside0 (Kd.S (Kd.slice 3 (Kd.int .i64)) 22 w' w.heap.size (fun k_ => some k_ ≠ (ah0 : Value).ownBlock) cd1 f5) ∧ Aside0 (w'.heap[np]? = some (.cells #[(.slice af ab.length ae), (.slice ah aa.length ag)] 25 (0, 0))) ∧ Aside0 (w'.heap[mm]? = some (.cells #[(.slice none 0 0), (.slice none 0 0)] 25 (0, 0))) ∧ Aside0 (w'.heap[nq]? = some (.cells #[ah0, cd1] 25 (0, 0))) ∧ Aside0 (Below w.heap.size w w'))
    case atStart => exact ⟨(0), (ot), (q7), (.slice cy ot.length cz), (.slice an q7.length ak), (g2_), H', ⟨Nat.le_refl _⟩, ⟨uf1_ pl⟩, ⟨uf3_ kf⟩, ⟨uf0_ gd⟩, ⟨uf0_ hz⟩, ⟨uf0_ jv⟩, ⟨ps⟩⟩
    case round =>
     clear H'
     try clear c1
     try clear c2
     try clear p2
     try clear c3
     try clear p3
     try clear q3
     try clear hx3
     try clear c6
     try clear p6
     try clear c9
     try clear d5
     try clear d2
     try clear cb
     try clear gv
     try clear ed
     try clear o3
     try clear ep
     try clear o0
     try clear lp
     try clear am6
     try clear dr
     try clear rq
     try clear fk
     try clear xq
     try clear cr6
     try clear eo5
     try clear jc
     try clear be8
     try clear ff
     try clear zc
     try clear gw
     try clear xw
     try clear jn
     try clear ad1
     try clear ol
     try clear om
     try clear l7
     try clear l8
     try clear oo
     try clear op
     try clear l9
     try clear ma
     try clear cd0
     try clear ar7
     try clear ar8
     try clear ar9
     try clear p2
     try clear bh9
     try clear bi1
     try clear bi3
     try clear bi5
     try clear bi0
     try clear bi2
     try clear bi4
     try clear bi6
     obtain ⟨ek, q8, f5, ah0, cd1, rfl, HA, HK2, pl, kf, gd, hz, jv, HB⟩ := hrel
     cases gk with
     | zero => exact absurd HA.out (by simp [impl_struckOut.l1])
     | succ k2 =>
      have H := HA.out
      clear HA
      simp only [impl_struckOut.l1] at H
      by_cases ib : ek < (l1.length : Int)
      ·rw [if_pos ib] at H
       have ba7 := decide_eq_true ib
       clear ib
       obtain ⟨la, H⟩ := pos_ H
       have da2 := decide_eq_true la
       clear la
       obtain ⟨od, H⟩ := pos_ H
       have ao8 := decide_eq_true od
       clear od
       obtain ⟨jt, H⟩ := pos_ H
       have bf7 := decide_eq_true jt
       clear jt
       obtain ⟨ni, H⟩ := pos_ H
       have by2 := decide_eq_true ni
       clear ni
       by_cases pe : (l1.length : Int) = 0
       ·rw [if_pos pe] at H
        exact absurd H (by simp)
       ·rw [if_neg pe] at H
        have by3 : ((l1.length : Int) == 0) = false := beq_eq_false_iff_ne.mpr pe
        have fx0 : ((l1.length : Int) != 0) = true := bne_iff_ne.mpr pe
        have fx1 : ¬ (l1 = []) := fun h_ => pe (g26_)
        obtain ⟨ji34, hji34⟩ : ∃ j_ : Int, (Int.tmod (wrap64 (ek + 1)) (l1.length : Int)) = j_ := ⟨_, rfl⟩
        replace H : (if 0 ≤ (ji34) then (if (ji34) < (l1.length : Int) then (if 0 ≤ (rd l1 (ji34)) then (if (rd l1 (ji34)) < ((rd_L1 f5 (rd l1 ek)).length : Int) then (impl_struckOut.l1 k2 l1 fb l1 (l1.length : Int) (wrap64 (ek + 1)) q8 (f5.set ((rd l1 ek) : Int).toNat ((rd_L1 f5 (rd l1 ek)).set ((rd l1 (ji34)) : Int).toNat (wrap64 ((rd (rd_L1 f5 (rd l1 ek)) (rd l1 (ji34))) - fb))))) else (none)) else (none)) else (none)) else (none)) = some (r1, r2) := by first | (rw [hji34] at H; exact H) | (simp only [hji34] at H ⊢; exact H)
        obtain ⟨g9, H⟩ := pos_ H
        have an1 := decide_eq_true g9
        clear g9
        obtain ⟨ky, H⟩ := pos_ H
        have bf8 := decide_eq_true ky
        clear ky
        obtain ⟨q9, H⟩ := pos_ H
        have ep7 := decide_eq_true q9
        clear q9
        obtain ⟨c38, H⟩ := pos_ H
        have ep8 := decide_eq_true c38
        clear c38
        obtain ⟨cd2, hy363⟩ : ∃ y_ : List Int, y_ = ((rd_L1 f5 (rd l1 ek)).set ((rd l1 (ji34)) : Int).toNat (wrap64 ((rd (rd_L1 f5 (rd l1 ek)) (rd l1 (ji34))) - fb))) := ⟨_, rfl⟩
        replace H : (impl_struckOut.l1 k2 l1 fb l1 (l1.length : Int) (wrap64 (ek + 1)) q8 (f5.set ((rd l1 ek) : Int).toNat cd2)) = some (r1, r2) := by first | (rw [hy363]; with_reducible exact H) | (have H2_ := (Option.bind_some _ _).symm.trans H; rw [hy363]; with_reducible exact H2_) | (have H2_ := (Option.bind_some _ _).symm.trans H; with_reducible exact H2_) | with_reducible exact H | (rw [hy363]; exact H) | exact H
        have ep9 := Aside0.mk hy363
        clear hy363
        obtain ⟨dd6, hy365⟩ : ∃ y_ : List (List Int), y_ = (f5.set ((rd l1 ek) : Int).toNat cd2) := ⟨_, rfl⟩
        replace H : (impl_struckOut.l1 k2 l1 fb l1 (l1.length : Int) (wrap64 (ek + 1)) q8 dd6) = some (r1, r2) := by first | (rw [hy365]; with_reducible exact H) | (have H2_ := (Option.bind_some _ _).symm.trans H; rw [hy365]; with_reducible exact H2_) | (have H2_ := (Option.bind_some _ _).symm.trans H; with_reducible exact H2_) | with_reducible exact H | (rw [hy365]; exact H) | exact H
        have eq0 := Aside0.mk hy365
        clear hy365
        have H' := Aside0.mk H
        clear H
        have cd3 : 0 ≤ (ek : Int) := of_decide_eq_true (g0_)
        have cd4 : ek < (l1.length : Int) := of_decide_eq_true (g0_)
        obtain ⟨dd7, eq1, dd8⟩ := Kd.at_int eh.out ek cd3 cd4
        cases eq1
        replace dd8 := cl_ HB dd8
        replace cd3 := eq_true cd3
        replace cd4 := eq_true cd4
        try go_wp2
        replace pl := Aside0.mk (Kd.R_drew pl.out)
        replace kf := Aside0.mk (Kd.S_drew kf.out)
        replace gd := Aside0.mk (blk_drew gd.out)
        replace hz := Aside0.mk (blk_drew hz.out)
        replace jv := Aside0.mk (blk_drew jv.out)
        replace HB := Aside0.mk (below_drew1 HB.out)
        obtain ⟨ah1, sh, ww⟩ := Kd.S_slice kf.out
        (first | subst ww | (injection ww with f1_ f2_ f3_; have f4_ := f1_.symm; have f5_ := f3_.symm; clear f1_ f2_ f3_; subst f4_; subst f5_))
        have bi7 : 0 ≤ ((rd l1 ek) : Int) := of_decide_eq_true (g0_)
        have bi8 : (rd l1 ek) < (f5.length : Int) := of_decide_eq_true (g0_)
        obtain ⟨cd5, fx2, eq2, eq3, bi9, dd9, de0⟩ := at_L1 (Kd.S_reads' kf.out).2.2 (rd l1 ek) bi7 bi8
        cases eq3
        obtain ⟨ce360, hce360, hMe360, hcc360⟩ := Kd.S_get kf.out [] (rd l1 ek) bi7 (by first | exact bi8 | exact of_decide_eq_true (g0_) | (have e_ := (Kd.S_reads' kf.out).1; omega))
        obtain ⟨ve360_0, rfl, ge360_0⟩ := hMe360
        have hv360_0 := hcc360 0 _ rfl
        rw [Nat.add_zero, show ((Kd.slice 3 (Kd.int .i64))).sz = 1 from rfl, Nat.mul_one] at hv360_0
        replace hv360_0 := Option.some.inj (hv360_0.symm.trans bi9)
        rw [hv360_0] at ge360_0
        have aa8 := Aside0.mk (show Kd.R (Kd.int .i64) 3 _ _ _ _ (rd_L1 f5 (rd l1 ek)) from ge360_0)
        clear hv360_0 ge360_0
        have HX360_0 := Aside0.mk bi9
        clear hcc360 hce360
        have cd6 := Aside0.mk de0
        have fx3 := Aside0.mk dd9
        clear de0 dd9
        replace bi7 := eq_true bi7
        replace bi8 := eq_true bi8
        have cd7 : 0 ≤ ((ji34) : Int) := of_decide_eq_true (g0_)
        have cd8 : (ji34) < (l1.length : Int) := of_decide_eq_true (g0_)
        obtain ⟨eq4, eq5, bj0⟩ := Kd.at_int eh.out (ji34) cd7 cd8
        have eq6 := bj0
        obtain rfl : dd7 = eq4 := (by injection eq5)
        replace bj0 := cl_ HB bj0
        replace cd7 := eq_true cd7
        replace cd8 := eq_true cd8
        have cd9 : 0 ≤ ((rd l1 (ji34)) : Int) := of_decide_eq_true (g0_)
        have ce0 : (rd l1 (ji34)) < ((rd_L1 f5 (rd l1 ek)).length : Int) := of_decide_eq_true (g0_)
        obtain ⟨fx4, eq7, ce1⟩ := Kd.at_int (by repeat (first | (with_reducible exact cd6.out) | (with_reducible refine Kd.C_alloc ?_ _) | (with_reducible refine Kd.C_drewN ?_ _) | (with_reducible refine Kd.C_drew ?_) | exact cd6.out)) (rd l1 (ji34)) cd9 ce0
        cases eq7
        replace cd9 := eq_true cd9
        replace ce0 := eq_true ce0
        have p39 : 0 ≤ ((rd l1 (ji34)) : Int) := of_decide_eq_true (g0_)
        have q39 : ((rd l1 (ji34)) : Int) < (((rd_L1 f5 (rd l1 ek)).length : Int) : Int) := of_decide_eq_true (g0_)
        obtain ⟨ah2, ag3, se, as0, gl39, cl39, HG39⟩ := Kd.R_form aa8.out (by omega)
        (first | cases se | (injection se with ea_ en_ ec_; (first | subst ea_ | (injection ea_ with ea_; subst ea_)); subst ec_; clear en_))
        have GB39 := Aside0.mk as0
        have GG39 := Aside0.mk HG39
        clear as0 gl39 HG39
        (first | simp only [add_plain] at ce1 | skip)
        obtain ⟨ce2, hf39_0⟩ := Kd.R_celln 0 aa8.out ((rd l1 (ji34)) : Int) p39 q39
        replace p39 := eq_true p39
        replace q39 := eq_true q39
        have hq42 : ((rd l1 ek) : Int) < (f5.length : Int) := (by have h_ : ((rd l1 ek) : Int) < ((f5.length : Int) : Int) := of_decide_eq_true (g0_); first | exact h_ | (have e_ := (Kd.S_reads' kf.out).1; omega) | simpa only [List.length_set, List.length_set] using h_)
        obtain ⟨oki42, ce42, hcl42, hM42, hcc42, hok42, hbk42⟩ := Kd.S_borrow kf.out [] ((rd l1 ek) : Int) (of_decide_eq_true (g0_)) (by first | exact hq42 | exact of_decide_eq_true (g0_) | (have e_ := (Kd.S_reads' kf.out).1; omega))
        obtain ⟨ve42_0, rfl, ge42_0⟩ := hM42
        have hv42 := hcc42 0 _ rfl
        rw [Nat.add_zero, show ((Kd.slice 3 (Kd.int .i64))).sz = 1 from rfl, Nat.mul_one] at hv42
        replace hv42 := Option.some.inj (hv42.symm.trans HX360_0.out)
        subst hv42
        clear hcc42 hcl42
        replace ge42_0 := (show Kd.R (Kd.int .i64) 3 _ _ _ _ (rd_L1 f5 (rd l1 ek)) from ge42_0)
        have HP42 := Kd.R_putg ge42_0 ((rd l1 (ji34)) : Int) (wrap64 ((rd (rd_L1 f5 (rd l1 ek)) (rd l1 (ji34))) - fb))
        rw [← ep9.out] at HP42
        have HS42 := hbk42 HP42.2 (fun k_ e_ => by injection e_ with e_; subst e_; exact ge42_0.1 _ rfl) (x' := cd2) (Kd.M_row HP42.1)
        rw [← eq0.out] at HS42
        have HQ42 := Aside0.mk HS42
        clear HP42 HS42 hbk42 hok42
        refine start_ (n := 19) (S := fun w' => w'.cell? ⟨nq, 0, none⟩ = some (ah0) ∧ w'.cell? ⟨nq, 1, none⟩ = some (.slice (some cd5) f5.length sh) ∧ w'.cell? (cd5.add ((rd l1 ek)).toNat) = some (.slice (some ⟨ah2, 0, none⟩) (rd_L1 f5 (rd l1 ek)).length eq2) ∧ w'.cell? (dd7.add ((ji34)).toNat) = some (.int .i64 (rd l1 (ji34))) ∧ w'.cell? ⟨ah2, ((rd l1 (ji34))).toNat, none⟩ = some (.int .i64 (rd (rd_L1 f5 (rd l1 ek)) (rd l1 (ji34))))) (ds := [18]) (tl_ 19 0) (g1_) rfl (g1_) ⟨(blk_cell jv.out 0).trans rfl, (blk_cell jv.out 1).trans rfl, bi9, ((cl_ HB eq6).trans rfl), ce1⟩ (fun hHeld => ?_); refine with_tabW impl_struckOut.tab11 impl_struckOut.bits11 (fun HT_ HW_ => ?_)
        generalize wr.drew = w40 at pl kf gd hz jv HB GG39 aa8 HQ42 cd6 HX360_0 hf39_0 bi9 bj0 ce1 ce2 hHeld ⊢
        refine pw_ 0 45 (tl_ 19 1) rfl rfl ?_
        refine pw_ 2 47 (tl_ 19 5) rfl rfl ?_
        refine pw_ 5 50 (tl_ 19 37) rfl rfl ?_
        refine pw_ 6 51 (tl_ 19 101) rfl rfl ?_
        refine pw_ 7 52 (tl_ 19 229) rfl rfl ?_
        refine pw_ 8 53 (tl_ 19 485) rfl rfl ?_
        refine pw_ 9 54 (tl_ 19 997) rfl rfl ?_
        refine pw_ 10 55 (tl_ 19 2021) rfl rfl ?_
        refine pw_ 11 56 (tl_ 19 4069) rfl rfl ?_
        refine pw_ 15 60 (tl_ 19 36837) rfl rfl ?_
        refine tk4_ 1 46 (tl_ 19 36839) rfl rfl hHeld ?_
        refine pw_ 3 48 (tl_ 19 36847) rfl rfl ?_
        refine tk4_ 4 49 (tl_ 19 36863) rfl rfl hHeld ?_
        refine tk4_ 12 57 (tl_ 19 40959) rfl rfl hHeld ?_
        refine pw_ 13 58 (tl_ 19 49151) rfl rfl ?_
        refine tk4_ 14 59 (tl_ 19 65535) rfl rfl hHeld ?_
        refine pw_ 16 61 (tl_ 19 131071) rfl rfl ?_
        refine pw_ 17 62 (tl_ 19 262143) rfl rfl ?_
        refine last_ (i := 18) (N := none) (tl_ 19 524287) rfl rfl (one_of HT_.out (g1_)) (by decide) (fun K hK => ?_)
        refine skip_ (w1 := ?_) (by rfl) rfl ?_ ?_
        rotate_left
        ·go_simp
         rfl
        refine hK.out _ _ ?_
        clear hK K
        refine done_ (done_of HT_.out (g1_)) ?_
        try go_wp2
        go_roundg k2
        case measure => have := HK1.out; have := HK2.out; omega
        case rel => exact ⟨(wrap64 (ek + 1)), (q8), (dd6), (ah0), (.slice (some cd5) f5.length sh), (g2_), H', ⟨g19_⟩, ⟨by (with_reducible repeat (first | apply Kd.R_alloc | apply Kd.R_drewN | apply Kd.R_drew)); exact Kd.R_mono (Kd.R_far (p := ⟨ah2, ((rd l1 (ji34)) : Int).toNat, none⟩) (Kd.R_far1 pl.out rfl ((aa8.out.1 _ rfl).1)) (fun _ hk => hk.2) (.int .i64 (wrap64 ((rd (rd_L1 f5 (rd l1 ek)) (rd l1 (ji34))) - fb)))) (fun _ hk => trivial)⟩, ⟨uf3_ HQ42⟩, ⟨by (with_reducible repeat (first | refine blk_drewN ?_ _ | refine blk_drew ?_ | refine blk_alloc ?_ _)); refine blk_far ?_ (by have h_ := Kd.R_ne aa8.out gd.out (by decide); intro e_; exact h_ (g7_)) _; exact uf0_ gd⟩, ⟨by (with_reducible repeat (first | refine blk_drewN ?_ _ | refine blk_drew ?_ | refine blk_alloc ?_ _)); refine blk_far ?_ (by have h_ := Kd.R_ne aa8.out hz.out (by decide); intro e_; exact h_ (g7_)) _; exact uf0_ hz⟩, ⟨by (with_reducible repeat (first | refine blk_drewN ?_ _ | refine blk_drew ?_ | refine blk_alloc ?_ _)); refine blk_far ?_ (by have h_ := Kd.R_ne aa8.out jv.out (by decide); intro e_; exact h_ (g7_)) _; exact uf0_ jv⟩, ⟨ps⟩⟩
      ·rw [if_neg ib] at H
       have ba7 := decide_eq_false ib
       clear ib
       simp only [Option.some.injEq, Prod.mk.injEq] at H
       obtain ⟨rfl, rfl⟩ := H
       have de1 := dc8.out
       have de2 := bh7.out
       have eq8 := dc9.out
       have eq9 := bh8.out
       obtain ⟨er0, er1, er2, er3⟩ := blk2_ jv
       obtain ⟨uh, ui, ce3⟩ := Kd.R_slice pl.out
       subst ce3
       have er4 := dc7.out
       have er5 := dc6.out
       obtain ⟨er6, er7, er8, er9⟩ := blk2_ hz
       obtain ⟨aa9, ab0, ce4⟩ := Kd.S_slice kf.out
       subst ce4
       go_wp2
       refine bodyPost_ret (results_cell_row rfl _ _ mm 25 #[.slice uh q8.length ui, .slice aa9 f5.length ab0] (0, 0) _ rfl (by (with_reducible repeat (first | refine blk_drewN ?_ _ | refine blk_drew ?_ | refine blk_alloc ?_ _)); refine blk_put (cs := #[.slice uh q8.length ui, .slice none 0 0]) ?_ 1 _ rfl; refine blk_put (cs := #[.slice none 0 0, .slice none 0 0]) ?_ 0 _ rfl; exact uf0_ hz) Try.underlying25 rfl (g1_)) rfl ?_
       exact ⟨_, _, g4_, by (with_reducible repeat (first | apply Kd.R_alloc | apply Kd.R_drewN | apply Kd.R_drew)); exact Kd.R_mono (Kd.R_far (p := ⟨mm, 1, none⟩) (Kd.R_far (p := ⟨mm, 0, none⟩) (Kd.R_types pl.out hz.out (by decide)) (fun _ hk => hk.2) (.slice uh q8.length ui)) (fun _ hk => hk.2) (.slice aa9 f5.length ab0)) (fun _ hk => trivial), by (with_reducible repeat (first | apply Kd.S_alloc | apply Kd.S_drewN | apply Kd.S_drew)); exact Kd.S_mono (Kd.S_far (p := ⟨mm, 1, none⟩) (Kd.S_far (p := ⟨mm, 0, none⟩) (Kd.S_types kf.out hz.out (by decide)) (fun _ hk => hk.2) (.slice uh q8.length ui)) (fun _ hk => hk.2) (.slice aa9 f5.length ab0)) (fun _ hk => hk.1), ps⟩
def impl_withoutCircles.l0 : Nat → Int → List Int → List (List Int) → Option (List Int × (List (List Int)) × Int)
 | 0, _, _, _ => none
 | k + 1, x5, cj1, cj2 => (impl_circles.f k cj1 cj2).bind fun jg => (if (jg.length : Int) = 0 then (some (cj1, cj2, x5)) else (if 0 < (jg.length : Int) then ((impl_struckOut.f k cj1 cj2 (rd_L1 jg 0)).bind fun bt504 => (impl_withoutCircles.l0 k (wrap64 (x5 + 1)) bt504.1 bt504.2)) else (none)))
def impl_withoutCircles.f (k : Nat) (ab : List Int) (aa : List (List Int)) : Option (List Int × (List (List Int)) × Int) := (impl_copyBook.f k ab aa).bind fun bt493 => (impl_withoutCircles.l0 k 0 bt493.1 bt493.2)
theorem impl_withoutCircles.mq {p : Prop} (h : p := by
 repeat' first
 | (with_reducible exact ih0 _ _ _)
 | (with_reducible exact impl_circles.mono _ _ _)
 | (with_reducible exact impl_copyBook.mono _ _ _)
 | (with_reducible exact impl_struckOut.mono _ _ _ _)
 | (with_reducible exact LeO.refl _)
 | (with_reducible exact LeO.none _)
 | (with_reducible refine LeO.ite ?_ ?_)
 | (with_reducible refine LeO.bind ?_ (fun _ => ?_))
 | exact ih0 _ _ _
 | exact impl_circles.mono _ _ _
 | exact impl_copyBook.mono _ _ _
 | exact impl_struckOut.mono _ _ _ _
 | exact LeO.none _
 | refine LeO.ite ?_ ?_
 | refine LeO.bind ?_ (fun _ => ?_)) : p := h
theorem impl_withoutCircles.mono_l : ∀ k, (∀ y0 y1 y2, LeO (impl_withoutCircles.l0 k y0 y1 y2) (impl_withoutCircles.l0 (k + 1) y0 y1 y2))
 | 0 => fun _ _ _ r h => by simp [impl_withoutCircles.l0] at h
 | k + 1 => by
  have ih0 := impl_withoutCircles.mono_l k
  ·intro y0 y1 y2
   unfold impl_withoutCircles.l0
   exact impl_withoutCircles.mq
theorem impl_withoutCircles.mono : ∀ a0 a1 k, LeO (impl_withoutCircles.f k a0 a1) (impl_withoutCircles.f (k + 1) a0 a1) := by
 intro a0 a1 k
 have ih0 := impl_withoutCircles.mono_l k
 unfold impl_withoutCircles.f
 exact impl_withoutCircles.mq
theorem h8 {p : Prop} (h : p := by repeat (first | (with_reducible first | exact HB.out | apply below_alloc | apply pw_below_drewN | apply below_drew1 | refine below_set ?_ fa9.out | refine below_set ?_ fb0.out | refine below_set ?_ fb1.out) | exact HB.out)) : p := h
set_option maxHeartbeats 8000000 in
set_option maxRecDepth 100000 in
theorem impl_withoutCircles.calls (k : Nat) (af : Option Addr) (ae : Nat) (ab : List Int) (ah : Option Addr) (ag : Nat) (aa : List (List Int)) (r1 : List Int) (r2 : List (List Int)) (r3 : Int) (w : World) (cg : Kd.C (Kd.int .i64) w af ab.length ab) (ck : ab.length ≤ ae) (ch : Kd.C (Kd.slice 3 (Kd.int .i64)) w ah aa.length aa) (cl : aa.length ≤ ag) (h : impl_withoutCircles.f k ab aa = some (r1, r2, r3)) :
  Calls Try.prog 99 #[.agg #[.slice af ab.length ae, .slice ah aa.length ag]] w fun e w' => ∃ v0_ v1_ : Value, e = .returned (.tuple #[.agg #[v0_, v1_], .int .i64 r3]) ∧ Kd.R (Kd.int .i64) 3 w' w.heap.size (fun k_ => (w.heap.size ≤ k_)) v0_ r1 ∧ Kd.N (Kd.slice 3 (Kd.int .i64)) 22 w' w.heap.size (fun k_ => (w.heap.size ≤ k_) ∧ some k_ ≠ (v0_ : Value).ownBlock) v1_ r2 ∧ Below w.heap.size w w' := by
 have hu25 := Try.underlying25
 have b7 := Aside0.mk cg
 have cn := Aside0.mk ck
 clear cg ck
 have bz := Aside0.mk ch
 have cr := Aside0.mk cl
 clear ch cl
 have HB := Aside0.mk (Below.refl w.heap.size w)
 have H : ((impl_copyBook.f k ab aa).bind fun bt493 => (impl_withoutCircles.l0 k 0 bt493.1 bt493.2)) = some (r1, r2, r3) := h
 clear h
 replace H := Option.bind_eq_some_iff.mp H
 obtain ⟨⟨ah9, au8⟩, wq, H⟩ := H
 try dsimp only at H
 have A2 := Aside0.mk wq
 clear wq
 have H' := Aside0.mk H
 clear H
 go_enter Try.func99, Try.ntmps99
 go_wp2_with (first | ((with_reducible refine gate_dst (N := 1) rfl ?_); refine bx_ (N := 1) #[.slice af ab.length ae, .slice ah aa.length ag] 25 ?_; intro jh hg w3 hbox hb; have f8 := Aside0.mk (hbox); have gg4 := Aside0.mk ((g42_ : w.heap.size ≤ jh)); have fa9 := Aside0.mk ((g42_ : w.heap.size ≤ jh)); replace HB := Aside0.mk (below_step (h8) hb); clear hb hbox hg) | ((with_reducible refine gate_dst (N := 2) rfl ?_); refine bx_ (N := 2) #[.slice none 0 0, .slice none 0 0] 25 ?_; intro g6 hg w4 hbox hb; have gr := Aside0.mk (hbox); have gg5 := Aside0.mk ((g42_ : w.heap.size ≤ g6)); have fb0 := Aside0.mk ((g42_ : w.heap.size ≤ g6)); replace HB := Aside0.mk (below_step (h8) hb); have dk6 := Aside0.mk ((by rw [hg]; exact Nat.ne_of_lt (blk_lt (g := jh) (o := .cells #[.slice af ab.length ae, .slice ah aa.length ag] 25 (0, 0)) (uf0_ f8)) : jh ≠ g6)); have dk7 := Aside0.mk ((by rw [hg]; exact Nat.ne_of_gt (blk_lt (g := jh) (o := .cells #[.slice af ab.length ae, .slice ah aa.length ag] 25 (0, 0)) (uf0_ f8)) : g6 ≠ jh)); replace f8 := bb_ f8 hb; clear hb hbox hg; have gg6 := dk6.out; have gg7 := dk7.out; obtain ⟨rs, rt, vc, ru⟩ := blk2_ f8) | ((with_reducible refine gate_callee (f := 111) rfl ?_); refine goesL_ (some 8) rfl rfl Try.func111 k_ rfl #[.agg #[.slice af ab.length ae, .slice ah aa.length ag]] rfl (g3_) ?_; (with_reducible refine (impl_copyBook.calls k _ _ ab _ _ aa ah9 au8 _ ?side1 ?side2 ?side3 ?side4 A2.out).mono ?_); (case side1 => exact uf2_ b7); (case side2 => exact cn.out); (case side3 => exact uf2_ bz); (case side4 => exact cr.out); rintro e w7 ⟨fb2, gg8, rfl, ac, b6, hb⟩; refine ⟨_, rfl, ?_⟩; have bn4 := Aside0.mk (Kd.R_lower (Kd.R_newM (M := fun k_ => (w.heap.size ≤ k_)) ac (below_size (h8)) (fun k_ h_ => h_)) (below_size (h8))); have bn5 := Aside0.mk (Kd.N_lower (Kd.N_mono (ok' := fun k_ => (w.heap.size ≤ k_) ∧ some k_ ≠ (fb2 : Value).ownBlock ∧ k_ ≠ jh ∧ k_ ≠ g6) (Kd.S_N (Kd.S_bound b6)) (fun k_ hk_ => ⟨(Nat.le_trans (below_size (h8)) hk_.2.1), hk_.1, (Kd.freshB (g := jh) (o := .cells #[.slice af ab.length ae, .slice ah aa.length ag] 25 (0, 0)) (uf0_ f8) k_ hk_.2.1), (Kd.freshB (g := g6) (o := .cells #[.slice none 0 0, .slice none 0 0] 25 (0, 0)) (uf0_ gr) k_ hk_.2.1)⟩)) (below_size (h8))); replace f8 := bb_ f8 hb; replace gr := bb_ gr hb; replace HB := Aside0.mk (below_step (h8) hb); (try clear hb); (try clear hk hi); (try clear ac); (try clear b6)) | ((with_reducible refine gate_dst (N := 4) rfl ?_); refine bx_ (N := 4) #[.slice none 0 0, .slice none 0 0] 25 ?_; intro fo hg w8 hbox hb; replace bn4 := Aside0.mk (Kd.R_below (uf1_ bn4) hb); replace bn5 := Aside0.mk (Kd.N_below (Kd.N_elderB (uf4_ bn5) fo (Nat.le_of_eq hg.symm)) hb); have fp := Aside0.mk (hbox); have gg9 := Aside0.mk ((g42_ : w.heap.size ≤ fo)); have fb1 := Aside0.mk ((g42_ : w.heap.size ≤ fo)); replace HB := Aside0.mk (below_step (h8) hb); have un := Aside0.mk ((by rw [hg]; exact Nat.ne_of_lt (blk_lt (g := jh) (o := .cells #[.slice af ab.length ae, .slice ah aa.length ag] 25 (0, 0)) (uf0_ f8)) : jh ≠ fo)); have au9 := Aside0.mk ((by rw [hg]; exact Nat.ne_of_gt (blk_lt (g := jh) (o := .cells #[.slice af ab.length ae, .slice ah aa.length ag] 25 (0, 0)) (uf0_ f8)) : fo ≠ jh)); replace f8 := bb_ f8 hb; have uo := Aside0.mk ((by rw [hg]; exact Nat.ne_of_lt (blk_lt (g := g6) (o := .cells #[.slice none 0 0, .slice none 0 0] 25 (0, 0)) (uf0_ gr)) : g6 ≠ fo)); have av0 := Aside0.mk ((by rw [hg]; exact Nat.ne_of_gt (blk_lt (g := g6) (o := .cells #[.slice none 0 0, .slice none 0 0] 25 (0, 0)) (uf0_ gr)) : fo ≠ g6)); replace gr := bb_ gr hb; clear hb hbox hg; obtain ⟨am, al, qb⟩ := Kd.R_slice bn4.out; subst qb; have gh0 := au9.out; have gh1 := un.out; have cc8 := av0.out; have cc9 := uo.out; obtain ⟨bc2, bc3, ce7, bc4⟩ := blk2_ fp; obtain ⟨xg, xh, cj3⟩ := Kd.N_slice bn5.out; subst cj3))
 go_loopg [5] k (fun kq v5 w' => ∃ (bs : Int) (ij : List Int) (ik : List (List Int)) (bn6 : Value) (cj4 : Value), v5 = .int .i64 bs ∧ Aside0 (impl_withoutCircles.l0 kq bs ij ik = some (r1, r2, r3)) ∧ Aside0 (kq ≤ k) ∧ Aside0 (Kd.R (Kd.int .i64) 3 w' w.heap.size (fun k_ => (w.heap.size ≤ k_)) bn6 ij) ∧ Aside0 (Kd.N (Kd.slice 3 (Kd.int .i64)) 22 w' w.heap.size (fun k_ => (w.heap.size ≤ k_) ∧ some k_ ≠ (bn6 : Value).ownBlock ∧ k_ ≠ jh ∧ k_ ≠ g6 ∧ k_ ≠ fo) cj4 ik) ∧ Aside0 (w'.heap[jh]? = some (.cells #[(.slice af ab.length ae), (.slice ah aa.length ag)] 25 (0, 0))) ∧ Aside0 (w'.heap[g6]? = some (.cells #[(.slice none 0 0), (.slice none 0 0)] 25 (0, 0))) ∧ Aside0 (w'.heap[fo]? = some (.cells #[bn6, cj4] 25 (0, 0))) ∧ Aside0 (Below w.heap.size w w'))
 case atStart => exact ⟨(0), (ah9), (au8), (.slice am ah9.length al), (.slice xg au8.length xh), (g2_), H', ⟨Nat.le_refl _⟩, ⟨by (with_reducible repeat (first | apply Kd.R_alloc | apply Kd.R_drewN | apply Kd.R_drew)); exact Kd.R_mono (Kd.R_far (p := ⟨fo, 1, none⟩) (Kd.R_far (p := ⟨fo, 0, none⟩) (Kd.R_types bn4.out fp.out (by decide)) (fun _ hk => hk.2) (.slice am ah9.length al)) (fun _ hk => hk.2) (.slice xg au8.length xh)) (fun _ hk => hk.1.1)⟩, ⟨by (with_reducible repeat (first | apply Kd.N_alloc | apply Kd.N_drewN | apply Kd.N_drew)); exact Kd.N_mono (Kd.N_far (p := ⟨fo, 1, none⟩) (Kd.N_far (p := ⟨fo, 0, none⟩) (Kd.N_mono bn5.out (fun k_ hk => (⟨hk, hk.2⟩ : _ ∧ k_ ≠ fo))) (fun _ hk => hk.2) (.slice am ah9.length al)) (fun _ hk => hk.2) (.slice xg au8.length xh)) (fun _ hk => ⟨hk.1.1.1, ⟨hk.1.1.2.1, ⟨hk.1.1.2.2.1, ⟨hk.1.1.2.2.2, hk.1.2⟩⟩⟩⟩)⟩, ⟨by (with_reducible repeat (first | refine blk_drewN ?_ _ | refine blk_drew ?_ | refine blk_alloc ?_ _)); refine blk_far ?_ un.out _; refine blk_far ?_ un.out _; exact uf0_ f8⟩, ⟨by (with_reducible repeat (first | refine blk_drewN ?_ _ | refine blk_drew ?_ | refine blk_alloc ?_ _)); refine blk_far ?_ uo.out _; refine blk_far ?_ uo.out _; exact uf0_ gr⟩, ⟨by (with_reducible repeat (first | refine blk_drewN ?_ _ | refine blk_drew ?_ | refine blk_alloc ?_ _)); refine blk_put (cs := #[.slice am ah9.length al, .slice none 0 0]) ?_ 1 _ rfl; refine blk_put (cs := #[.slice none 0 0, .slice none 0 0]) ?_ 0 _ rfl; exact uf0_ fp⟩, ⟨h8⟩⟩
 case round =>
  clear H'
  try clear c1
  try clear p2
  try clear c5
  try clear c9
  try clear db
  try clear d5
  try clear bc2
  try clear bc3
  try clear rs
  try clear rt
  try clear ce7
  try clear bc4
  try clear vc
  try clear ru
  obtain ⟨bs, ij, ik, bn6, cj4, rfl, HA, HK1, il, i3, f8, gr, fp, HB⟩ := hrel
  cases gk with
  | zero => exact absurd HA.out (by simp [impl_withoutCircles.l0])
  | succ k1 =>
   have H := HA.out
   clear HA
   simp only [impl_withoutCircles.l0] at H
   obtain ⟨jg, A14, H⟩ := bind_ H
   by_cases cb : (jg.length : Int) = 0
   ·rw [if_pos cb] at H
    have gv : ((jg.length : Int) == 0) = true := beq_iff_eq.mpr cb
    have fb3 : ((jg.length : Int) != 0) = false := bne_eq_false_iff_eq.mpr cb
    clear cb
    simp only [Option.some.injEq, Prod.mk.injEq] at H
    obtain ⟨rfl, rfl, rfl⟩ := H
    have gh2 := au9.out
    have gh3 := un.out
    have fb4 := av0.out
    have fb5 := uo.out
    obtain ⟨mz, m0, m3, m4⟩ := blk2_ fp
    obtain ⟨k8, k9, oq⟩ := Kd.R_slice il.out
    subst oq
    obtain ⟨ai0, ai1, fb6⟩ := Kd.N_slice i3.out
    subst fb6
    go_wp2_with (first | ((with_reducible refine gate_callee (f := 96) rfl ?_); refine goesL_ (some 12) rfl rfl Try.func96 k_ rfl #[.agg #[.slice k8 ij.length k9, .slice ai0 ik.length ai1]] rfl (g3_) ?_; (with_reducible refine (impl_circles.calls k1 _ _ ij _ _ ik jg _ ?side1 ?side2 ?side3 ?side4 A14.out).mono ?_); (case side1 => repeat (first | exact (Kd.R_reads' il.out).2.2 | (with_reducible refine Kd.C_alloc ?_ _) | (with_reducible refine Kd.C_drewN ?_ _) | (with_reducible refine Kd.C_drew ?_))); (case side2 => exact (Kd.R_reads' il.out).2.1); (case side3 => repeat (first | exact (Kd.N_reads' i3.out).2.2 | (with_reducible refine Kd.C_alloc ?_ _) | (with_reducible refine Kd.C_drewN ?_ _) | (with_reducible refine Kd.C_drew ?_))); (case side4 => exact (Kd.N_reads' i3.out).2.1); rintro e we ⟨fb7, rfl, ac, hb⟩; refine ⟨_, rfl, ?_⟩; have po := Aside0.mk (Kd.N_lower (Kd.N_mono (ok' := fun k_ => (w.heap.size ≤ k_) ∧ some k_ ≠ (.slice k8 ij.length k9 : Value).ownBlock ∧ some k_ ≠ (.slice ai0 ik.length ai1 : Value).ownBlock ∧ k_ ≠ jh ∧ k_ ≠ g6 ∧ k_ ≠ fo) ac (fun k_ hk_ => ⟨(Nat.le_trans (below_size (h8)) hk_), (Kd.fresh' (Kd.R_lt (uf1_ il)) k_ hk_), (Kd.fresh' (Kd.N_lt (uf4_ i3)) k_ hk_), (Kd.freshB (g := jh) (o := .cells #[.slice af ab.length ae, .slice ah aa.length ag] 25 (0, 0)) (uf0_ f8) k_ hk_), (Kd.freshB (g := g6) (o := .cells #[.slice none 0 0, .slice none 0 0] 25 (0, 0)) (uf0_ gr) k_ hk_), (Kd.freshB (g := fo) (o := .cells #[.slice k8 ij.length k9, .slice ai0 ik.length ai1] 25 (0, 0)) (uf0_ fp) k_ hk_)⟩)) (below_size (h8))); replace il := Aside0.mk (Kd.R_below (uf1_ il) hb); replace i3 := Aside0.mk (Kd.N_elder' (uf4_ i3) (Kd.N_base (g6_)) hb); replace f8 := bb_ f8 hb; replace gr := bb_ gr hb; replace fp := bb_ fp hb; replace HB := Aside0.mk (below_step (h8) hb); (try clear hb); (try clear hk hi); (try clear ac); obtain ⟨gh4, gh5, fb8⟩ := Kd.N_slice po.out; subst fb8; obtain ⟨gh6, gh7, gh8, gh9⟩ := blk2_ fp; have gi0 := dk7.out; have gi1 := dk6.out; obtain ⟨gi2, gi3, gi4, gi5⟩ := blk2_ gr))
    refine bodyPost_ret (results_ct rfl _ _ g6 25 #[.slice k8 ij.length k9, .slice ai0 ik.length ai1] (0, 0) _ rfl (by (with_reducible repeat (first | refine blk_drewN ?_ _ | refine blk_drew ?_ | refine blk_alloc ?_ _)); refine blk_put (cs := #[.slice k8 ij.length k9, .slice none 0 0]) ?_ 1 _ rfl; refine blk_put (cs := #[.slice none 0 0, .slice none 0 0]) ?_ 0 _ rfl; exact uf0_ gr) Try.underlying25 rfl (g1_)) rfl ?_
    exact ⟨_, _, g4_, by (with_reducible repeat (first | apply Kd.R_alloc | apply Kd.R_drewN | apply Kd.R_drew)); exact Kd.R_mono (Kd.R_far (p := ⟨g6, 1, none⟩) (Kd.R_far (p := ⟨g6, 0, none⟩) (Kd.R_types il.out gr.out (by decide)) (fun _ hk => hk.2) (.slice k8 ij.length k9)) (fun _ hk => hk.2) (.slice ai0 ik.length ai1)) (fun _ hk => hk.1), by (with_reducible repeat (first | apply Kd.N_alloc | apply Kd.N_drewN | apply Kd.N_drew)); exact Kd.N_mono (Kd.N_far (p := ⟨g6, 1, none⟩) (Kd.N_far (p := ⟨g6, 0, none⟩) (Kd.N_mono i3.out (fun k_ hk => (⟨hk, hk.1.2.2.2.1⟩ : _ ∧ k_ ≠ g6))) (fun _ hk => hk.2) (.slice k8 ij.length k9)) (fun _ hk => hk.2) (.slice ai0 ik.length ai1)) (fun _ hk => ⟨hk.1.1.1, hk.1.1.2.1⟩), h8⟩
   ·rw [if_neg cb] at H
    have gv : ((jg.length : Int) == 0) = false := beq_eq_false_iff_ne.mpr cb
    have fb3 : ((jg.length : Int) != 0) = true := bne_iff_ne.mpr cb
    have gi6 : ¬ (jg = []) := fun h_ => cb (g26_)
    obtain ⟨o1, H⟩ := pos_ H
    have bq8 := decide_eq_true o1
    have gi7 : decide (0 < jg.length) = true := decide_eq_true (by omega)
    clear o1
    replace H := Option.bind_eq_some_iff.mp H
    obtain ⟨⟨ai2, av1⟩, as3, H⟩ := H
    try dsimp only at H
    have A27 := Aside0.mk as3
    clear as3
    have H' := Aside0.mk H
    clear H
    have ci5 := au9.out
    have ci6 := un.out
    have cc5 := av0.out
    have cc6 := uo.out
    obtain ⟨tp, tq, tr, ts⟩ := blk2_ fp
    obtain ⟨uq, ur, fb9⟩ := Kd.R_slice il.out
    subst fb9
    obtain ⟨so, sp, fc0⟩ := Kd.N_slice i3.out
    subst fc0
    try go_wp2_with (first | ((with_reducible refine gate_callee (f := 96) rfl ?_); refine goesL_ (some 12) rfl rfl Try.func96 k_ rfl #[.agg #[.slice uq ij.length ur, .slice so ik.length sp]] rfl (g3_) ?_; (with_reducible refine (impl_circles.calls k1 _ _ ij _ _ ik jg _ ?side1 ?side2 ?side3 ?side4 A14.out).mono ?_); (case side1 => repeat (first | exact (Kd.R_reads' il.out).2.2 | (with_reducible refine Kd.C_alloc ?_ _) | (with_reducible refine Kd.C_drewN ?_ _) | (with_reducible refine Kd.C_drew ?_))); (case side2 => exact (Kd.R_reads' il.out).2.1); (case side3 => repeat (first | exact (Kd.N_reads' i3.out).2.2 | (with_reducible refine Kd.C_alloc ?_ _) | (with_reducible refine Kd.C_drewN ?_ _) | (with_reducible refine Kd.C_drew ?_))); (case side4 => exact (Kd.N_reads' i3.out).2.1); rintro e w33 ⟨fb7, rfl, ac, hb⟩; refine ⟨_, rfl, ?_⟩; have po := Aside0.mk (Kd.N_lower (Kd.N_mono (ok' := fun k_ => (w.heap.size ≤ k_) ∧ some k_ ≠ (.slice uq ij.length ur : Value).ownBlock ∧ some k_ ≠ (.slice so ik.length sp : Value).ownBlock ∧ k_ ≠ jh ∧ k_ ≠ g6 ∧ k_ ≠ fo) ac (fun k_ hk_ => ⟨(Nat.le_trans (below_size (h8)) hk_), (Kd.fresh' (Kd.R_lt (uf1_ il)) k_ hk_), (Kd.fresh' (Kd.N_lt (uf4_ i3)) k_ hk_), (Kd.freshB (g := jh) (o := .cells #[.slice af ab.length ae, .slice ah aa.length ag] 25 (0, 0)) (uf0_ f8) k_ hk_), (Kd.freshB (g := g6) (o := .cells #[.slice none 0 0, .slice none 0 0] 25 (0, 0)) (uf0_ gr) k_ hk_), (Kd.freshB (g := fo) (o := .cells #[.slice uq ij.length ur, .slice so ik.length sp] 25 (0, 0)) (uf0_ fp) k_ hk_)⟩)) (below_size (h8))); replace il := Aside0.mk (Kd.R_below (uf1_ il) hb); replace i3 := Aside0.mk (Kd.N_elder' (uf4_ i3) (Kd.N_base (g6_)) hb); replace f8 := bb_ f8 hb; replace gr := bb_ gr hb; replace fp := bb_ fp hb; replace HB := Aside0.mk (below_step (h8) hb); (try clear hb); (try clear hk hi); (try clear ac); obtain ⟨bh3, ar5, cc7⟩ := Kd.N_slice po.out; subst cc7))
    replace il := Aside0.mk (Kd.R_drew il.out)
    replace i3 := Aside0.mk (Kd.N_drew i3.out)
    replace po := Aside0.mk (Kd.N_drew po.out)
    replace f8 := Aside0.mk (blk_drew f8.out)
    replace gr := Aside0.mk (blk_drew gr.out)
    replace fp := Aside0.mk (blk_drew fp.out)
    replace HB := Aside0.mk (below_drew1 HB.out)
    have bn7 : 0 ≤ (0 : Int) := (by omega)
    have bn8 : 0 < (jg.length : Int) := of_decide_eq_true (g0_)
    obtain ⟨dk8, dk9, dl0, fc1, av2, dl1, dl2⟩ := at_L1 (Kd.N_reads' po.out).2.2 0 bn7 bn8
    cases fc1
    obtain ⟨ce503, hce503, hMe503, hcc503⟩ := Kd.N_get po.out [] 0 bn7 (by first | exact bn8 | exact of_decide_eq_true (g0_) | (have e_ := (Kd.N_reads' po.out).1; omega))
    obtain ⟨ua503_0, uc503_0, rfl, ul503_0, ge503_0⟩ := Kd.FK_slice_open hMe503
    have hv503_0 := hcc503 0 _ rfl
    rw [Nat.add_zero, show ((Kd.slice 3 (Kd.int .i64))).sz = 1 from rfl, Nat.mul_one] at hv503_0
    replace hv503_0 := Option.some.inj (hv503_0.symm.trans av2)
    injection hv503_0 with hva_ hvn_ hvc_
    rw [hva_] at ge503_0
    rw [hvc_] at ul503_0
    have cj5 := Aside0.mk (show Kd.V (Kd.int .i64) 3 _ w.heap.size _ _ (rd_L1 jg 0) from Kd.V_mk ul503_0 ge503_0)
    clear hva_ hvn_ hvc_ ge503_0 ul503_0
    clear hcc503 hce503
    have qi503 : (0 < jg.length) = True := eq_true (by omega)
    (try rw [show ((0 : Int)).toNat = 0 from rfl] at av2)
    (try rw [Addr.add_zero'] at av2)
    have ai3 := Aside0.mk dl2
    have fc2 := Aside0.mk dl1
    clear dl2 dl1
    replace bn7 := eq_true bn7
    replace bn8 := eq_true bn8
    refine start_ (n := 6) (S := fun w' => w'.cell? ⟨fo, 0, none⟩ = some (.slice uq ij.length ur) ∧ w'.cell? ⟨fo, 1, none⟩ = some (.slice so ik.length sp) ∧ w'.cell? dk8 = some (.slice dk9 (rd_L1 jg 0).length dl0)) (ds := [5]) (tl_ 6 0) (g1_) rfl (g1_) ⟨(blk_cell fp.out 0).trans rfl, (blk_cell fp.out 1).trans rfl, av2⟩ (fun hHeld => ?_)
    generalize w33.drew = w35 at il i3 po f8 gr fp HB cj5 ai3 av2 hHeld ⊢
    refine pure_ (i := 1) (N := some 19) (v := ?_) (a' := ?_) (tl_ 6 2) rfl rfl (g1_) (fun _ _ _ h => h) (Or.inl ⟨by rfl, ?_⟩) ?_ ?_
    rotate_left
    ·intro w'
     go_simp
     with_reducible rfl
    rotate_left
    ·simp only [Act.put, List.setIfInBounds_toArray, List.set_cons_zero, List.set_cons_succ, i64_w, i32_w]
     rfl
    refine pure_ (i := 2) (N := some 20) (v := ?_) (a' := ?_) (tl_ 6 6) rfl rfl (g1_) (fun _ _ _ h => h) (Or.inl ⟨by rfl, ?_⟩) ?_ ?_
    rotate_left
    ·intro w'
     go_simp
     with_reducible rfl
    rotate_left
    ·simp only [Act.put, List.setIfInBounds_toArray, List.set_cons_zero, List.set_cons_succ, i64_w, i32_w]
     rfl
    refine take_ (i := 0) (N := some 18) (v := ?_) (a' := ?_) (tl_ 6 7) rfl rfl (g1_) (fun _ _ _ h => h) (Or.inl ⟨by rfl, ?_⟩) hHeld ?_ ?_
    rotate_left
    ·rintro w' ⟨s0, s1, s2⟩
     go_simp
     with_reducible rfl
    rotate_left
    ·simp only [Act.put, List.setIfInBounds_toArray, List.set_cons_zero, List.set_cons_succ, i64_w, i32_w]
     rfl
    refine take_ (i := 3) (N := some 21) (v := ?_) (a' := ?_) (tl_ 6 15) rfl rfl (g1_) (fun _ _ _ h => h) (Or.inl ⟨by rfl, ?_⟩) hHeld ?_ ?_
    rotate_left
    ·rintro w' ⟨s0, s1, s2⟩
     go_simp
     with_reducible rfl
    rotate_left
    ·simp only [Act.put, List.setIfInBounds_toArray, List.set_cons_zero, List.set_cons_succ, i64_w, i32_w]
     rfl
    refine one_ (i := 4) (N := some 22) (tl_ 6 31) rfl rfl (g1_) (by decide) (fun K hK => ?_)
    refine goes_ Try.func97 (g1_) rfl #[.agg #[.slice uq ij.length ur, .slice so ik.length sp], .slice dk9 (rd_L1 jg 0).length dl0] (by rfl) rfl rfl (g3_) ?_
    with_reducible refine (impl_struckOut.calls k1 _ _ ij _ _ ik _ _ (rd_L1 jg 0) ai2 av1 _ ?side1 ?side2 ?side3 ?side4 ?side5 ?side6 A27.out).mono ?_
    (case side1 => repeat (first | exact (Kd.R_reads' il.out).2.2 | (with_reducible refine Kd.C_alloc ?_ _) | (with_reducible refine Kd.C_drewN ?_ _) | (with_reducible refine Kd.C_drew ?_)))
    (case side2 => exact (Kd.R_reads' il.out).2.1)
    (case side3 => repeat (first | exact (Kd.N_reads' i3.out).2.2 | (with_reducible refine Kd.C_alloc ?_ _) | (with_reducible refine Kd.C_drewN ?_ _) | (with_reducible refine Kd.C_drew ?_)))
    (case side4 => exact (Kd.N_reads' i3.out).2.1)
    (case side5 => repeat (first | exact (by repeat (first | (with_reducible exact ai3.out) | (with_reducible refine Kd.C_alloc ?_ _) | (with_reducible refine Kd.C_drewN ?_ _) | (with_reducible refine Kd.C_drew ?_) | exact ai3.out)) | (with_reducible refine Kd.C_alloc ?_ _) | (with_reducible refine Kd.C_drewN ?_ _) | (with_reducible refine Kd.C_drew ?_)))
    (case side6 => exact fc2.out)
    rintro e ei ⟨fc3, gi8, rfl, ac, b6, hb⟩
    have HS2_ := (hb.cell (World.block_lt_of_cell? _ _ (hHeld.2.2))).trans (hHeld.2.2)
    refine ⟨_, rfl, ?_⟩
    replace cj5 := Aside0.mk (Kd.V_mono (Kd.V_told (Kd.V_told (Kd.V_old (uf5_ cj5) hb) (Kd.R_base ac)) (Kd.N_base (g11_))) (fun _ h_ => h_.1))
    have dl3 := Aside0.mk (Kd.R_lower (Kd.R_new' (Kd.R_newM (M := fun k_ => (w.heap.size ≤ k_)) ac (below_size (h8)) (fun k_ h_ => h_)) (Kd.R_lt (uf1_ il))) (below_size (h8)))
    have dl4 := Aside0.mk (Kd.N_lower (Kd.N_mono (ok' := fun k_ => (w.heap.size ≤ k_) ∧ some k_ ≠ (fc3 : Value).ownBlock ∧ some k_ ≠ (.slice uq ij.length ur : Value).ownBlock ∧ some k_ ≠ (.slice so ik.length sp : Value).ownBlock ∧ some k_ ≠ (.slice (some dk8) jg.length ar5 : Value).ownBlock ∧ k_ ≠ jh ∧ k_ ≠ g6 ∧ k_ ≠ fo) (Kd.S_N (Kd.S_bound b6)) (fun k_ hk_ => ⟨(Nat.le_trans (below_size (h8)) hk_.2.1), hk_.1, (Kd.fresh' (Kd.R_lt (uf1_ il)) k_ hk_.2.1), (Kd.fresh' (Kd.N_lt (uf4_ i3)) k_ hk_.2.1), (Kd.fresh' (Kd.N_lt (uf4_ po)) k_ hk_.2.1), (Kd.freshB (g := jh) (o := .cells #[.slice af ab.length ae, .slice ah aa.length ag] 25 (0, 0)) (uf0_ f8) k_ hk_.2.1), (Kd.freshB (g := g6) (o := .cells #[.slice none 0 0, .slice none 0 0] 25 (0, 0)) (uf0_ gr) k_ hk_.2.1), (Kd.freshB (g := fo) (o := .cells #[.slice uq ij.length ur, .slice so ik.length sp] 25 (0, 0)) (uf0_ fp) k_ hk_.2.1)⟩)) (below_size (h8)))
    replace il := Aside0.mk (Kd.R_elder' (uf1_ il) (Kd.R_base ac) hb)
    replace i3 := Aside0.mk (Kd.N_mono (Kd.N_told (Kd.N_told (Kd.N_old (uf4_ i3) hb) (Kd.R_base ac)) (Kd.N_base (g11_))) (fun _ h_ => h_.1))
    replace po := Aside0.mk (Kd.N_mono (Kd.N_told (Kd.N_told (Kd.N_old (uf4_ po) hb) (Kd.R_base ac)) (Kd.N_base (g11_))) (fun _ h_ => h_.1))
    replace f8 := bb_ f8 hb
    replace gr := bb_ gr hb
    replace fp := bb_ fp hb
    replace ai3 := Aside0.mk (Kd.C_below (by repeat (first | (with_reducible exact ai3.out) | (with_reducible refine Kd.C_alloc ?_ _) | (with_reducible refine Kd.C_drewN ?_ _) | (with_reducible refine Kd.C_drew ?_) | exact ai3.out)) hb)
    replace HB := Aside0.mk (below_step (h8) hb)
    (try clear hb)
    (try clear hk hi)
    (try clear ac)
    (try clear b6)
    obtain ⟨bn9, bo0, dl5⟩ := Kd.R_slice dl3.out
    (first | subst dl5 | (injection dl5 with f1_ f2_ f3_; have f4_ := f1_.symm; have f5_ := f3_.symm; clear f1_ f2_ f3_; subst f4_; subst f5_))
    obtain ⟨bg7, ag3, se⟩ := Kd.N_slice dl4.out
    (first | subst se | (injection se with f1_ f2_ f3_; have f4_ := f1_.symm; have f5_ := f3_.symm; clear f1_ f2_ f3_; subst f4_; subst f5_))
    refine hK.out _ _ ⟨(blk_cell fp.out 0).trans rfl, (blk_cell fp.out 1).trans rfl, HS2_⟩ (fun hHeld => ?_)
    clear hK K
    refine nm_ ?_
    refine last_ (i := 5) (N := none) (tl_ 6 63) rfl rfl (g1_) (by decide) (fun K hK => ?_)
    have gi9 : ei.cell? ⟨fo, 0, none⟩ = some (.slice uq ij.length ur) := (blk_cell fp.out 0).trans rfl
    have gj0 := blk_frozen fp.out 0
    have gj1 := un.out
    have gj2 := uo.out
    have gj3 := au9.out
    have gj4 := av0.out
    have gj5 : ei.cell? ⟨fo, 1, none⟩ = some (.slice so ik.length sp) := (blk_cell fp.out 1).trans rfl
    have gj6 := blk_frozen fp.out 1
    have gj7 := un.out
    have gj8 := uo.out
    have gj9 := au9.out
    have gk0 := av0.out
    refine skip_ (w1 := ?_) (by rfl) rfl ?_ ?_
    rotate_left
    ·go_simp
     rfl
    refine hK.out _ _ ?_
    clear hK K
    refine done_ (g1_) ?_
    try go_wp2
    go_roundg k1
    case measure => have := HK1.out; omega
    case rel => exact ⟨(wrap64 (bs + 1)), (ai2), (av1), (.slice bn9 ai2.length bo0), (.slice bg7 av1.length ag3), (g2_), H', ⟨g9_⟩, ⟨by (with_reducible repeat (first | apply Kd.R_alloc | apply Kd.R_drewN | apply Kd.R_drew)); exact Kd.R_mono (Kd.R_far (p := ⟨fo, 1, none⟩) (Kd.R_far (p := ⟨fo, 0, none⟩) (Kd.R_types dl3.out fp.out (by decide)) (fun _ hk => hk.2) (.slice bn9 ai2.length bo0)) (fun _ hk => hk.2) (.slice bg7 av1.length ag3)) (fun _ hk => hk.1.1.1)⟩, ⟨by (with_reducible repeat (first | apply Kd.N_alloc | apply Kd.N_drewN | apply Kd.N_drew)); exact Kd.N_mono (Kd.N_far (p := ⟨fo, 1, none⟩) (Kd.N_far (p := ⟨fo, 0, none⟩) (Kd.N_mono dl4.out (fun k_ hk => (⟨hk, hk.2.2.2.2.2.2.2⟩ : _ ∧ k_ ≠ fo))) (fun _ hk => hk.2) (.slice bn9 ai2.length bo0)) (fun _ hk => hk.2) (.slice bg7 av1.length ag3)) (fun _ hk => ⟨hk.1.1, ⟨hk.1.2.1, ⟨hk.1.2.2.2.2.2.1, ⟨hk.1.2.2.2.2.2.2.1, hk.1.2.2.2.2.2.2.2⟩⟩⟩⟩)⟩, ⟨by (with_reducible repeat (first | refine blk_drewN ?_ _ | refine blk_drew ?_ | refine blk_alloc ?_ _)); refine blk_far ?_ un.out _; refine blk_far ?_ un.out _; exact uf0_ f8⟩, ⟨by (with_reducible repeat (first | refine blk_drewN ?_ _ | refine blk_drew ?_ | refine blk_alloc ?_ _)); refine blk_far ?_ uo.out _; refine blk_far ?_ uo.out _; exact uf0_ gr⟩, ⟨by (with_reducible repeat (first | refine blk_drewN ?_ _ | refine blk_drew ?_ | refine blk_alloc ?_ _)); refine blk_put (cs := #[.slice bn9 ai2.length bo0, .slice so ik.length sp]) ?_ 1 _ rfl; refine blk_put (cs := #[.slice uq ij.length ur, .slice so ik.length sp]) ?_ 0 _ rfl; exact uf0_ fp⟩, ⟨h8⟩⟩
def impl_WithoutCircles.f (k : Nat) (ab : List Int) (aa : List (List Int)) : Option (List Int × (List (List Int)) × Int) := (impl_isBook.f k ab aa).bind fun av3 => (if av3 = true then ((impl_withoutCircles.f k ab aa).bind fun bt513 => (some (bt513.1, bt513.2.1, bt513.2.2))) else (some (([] : List Int), ([] : List (List Int)), (-1))))
theorem impl_WithoutCircles.mq {p : Prop} (h : p := by
 repeat' first
 | (with_reducible exact impl_isBook.mono _ _ _)
 | (with_reducible exact impl_withoutCircles.mono _ _ _)
 | (with_reducible exact LeO.refl _)
 | (with_reducible exact LeO.none _)
 | (with_reducible refine LeO.ite ?_ ?_)
 | (with_reducible refine LeO.bind ?_ (fun _ => ?_))
 | exact impl_isBook.mono _ _ _
 | exact impl_withoutCircles.mono _ _ _
 | exact LeO.none _
 | refine LeO.ite ?_ ?_
 | refine LeO.bind ?_ (fun _ => ?_)) : p := h
theorem impl_WithoutCircles.mono : ∀ a0 a1 k, LeO (impl_WithoutCircles.f k a0 a1) (impl_WithoutCircles.f (k + 1) a0 a1) := by
 intro a0 a1 k
 unfold impl_WithoutCircles.f
 exact impl_WithoutCircles.mq
theorem nw {p : Prop} (h : p := by repeat (first | (with_reducible first | exact HB.out | apply below_alloc | apply pw_below_drewN | apply below_drew1 | refine below_set ?_ dl6.out | refine below_set ?_ dl7.out) | exact HB.out)) : p := h
set_option maxHeartbeats 8000000 in
set_option maxRecDepth 100000 in
theorem impl_WithoutCircles.calls (k : Nat) (af : Option Addr) (ae : Nat) (ab : List Int) (ah : Option Addr) (ag : Nat) (aa : List (List Int)) (r1 : List Int) (r2 : List (List Int)) (r3 : Int) (w : World) (cg : Kd.C (Kd.int .i64) w af ab.length ab) (ck : ab.length ≤ ae) (ch : Kd.C (Kd.slice 3 (Kd.int .i64)) w ah aa.length aa) (cl : aa.length ≤ ag) (h : impl_WithoutCircles.f k ab aa = some (r1, r2, r3)) :
  Calls Try.prog 52 #[.agg #[.slice af ab.length ae, .slice ah aa.length ag]] w fun e w' => ∃ v0_ v1_ : Value, e = .returned (.tuple #[.agg #[v0_, v1_], .int .i64 r3]) ∧ Kd.R (Kd.int .i64) 3 w' w.heap.size (fun k_ => (w.heap.size ≤ k_)) v0_ r1 ∧ Kd.N (Kd.slice 3 (Kd.int .i64)) 22 w' w.heap.size (fun k_ => (w.heap.size ≤ k_) ∧ some k_ ≠ (v0_ : Value).ownBlock) v1_ r2 ∧ Below w.heap.size w w' := by
 have hu25 := Try.underlying25
 have b7 := Aside0.mk cg
 have cn := Aside0.mk ck
 clear cg ck
 have bz := Aside0.mk ch
 have cr := Aside0.mk cl
 clear ch cl
 have HB := Aside0.mk (Below.refl w.heap.size w)
 have H : ((impl_isBook.f k ab aa).bind fun av3 => (if av3 = true then ((impl_withoutCircles.f k ab aa).bind fun bt513 => (some (bt513.1, bt513.2.1, bt513.2.2))) else (some (([] : List Int), ([] : List (List Int)), (-1))))) = some (r1, r2, r3) := h
 clear h
 obtain ⟨av3, A2, H⟩ := bind_ H
 by_cases c3 : av3 = true
 ·subst c3
  replace H := ifp_ H
  replace H := Option.bind_eq_some_iff.mp H
  obtain ⟨⟨av4, bo1, fc6⟩, lq, H⟩ := H
  try dsimp only at H
  have A4 := Aside0.mk lq
  clear lq
  simp only [Option.some.injEq, Prod.mk.injEq] at H
  obtain ⟨rfl, rfl, rfl⟩ := H
  go_enter Try.func52, Try.ntmps52
  go_wp2_with (first | ((with_reducible refine gate_dst (N := 1) rfl ?_); refine bx_ (N := 1) #[.slice af ab.length ae, .slice ah aa.length ag] 25 ?_; intro ms hg w5 hbox hb; have jy := Aside0.mk (hbox); have fc7 := Aside0.mk ((g29_ : w.heap.size ≤ ms)); have dl6 := Aside0.mk ((g29_ : w.heap.size ≤ ms)); replace HB := Aside0.mk (below_step (nw) hb); clear hb hbox hg) | ((with_reducible refine gate_dst (N := 2) rfl ?_); refine bx_ (N := 2) #[.slice none 0 0, .slice none 0 0] 25 ?_; intro ki hg w6 hbox hb; have oz := Aside0.mk (hbox); have fc8 := Aside0.mk ((g29_ : w.heap.size ≤ ki)); have dl7 := Aside0.mk ((g29_ : w.heap.size ≤ ki)); replace HB := Aside0.mk (below_step (nw) hb); have cj7 := Aside0.mk ((by rw [hg]; exact Nat.ne_of_lt (blk_lt (g := ms) (o := .cells #[.slice af ab.length ae, .slice ah aa.length ag] 25 (0, 0)) (uf0_ jy)) : ms ≠ ki)); have cj8 := Aside0.mk ((by rw [hg]; exact Nat.ne_of_gt (blk_lt (g := ms) (o := .cells #[.slice af ab.length ae, .slice ah aa.length ag] 25 (0, 0)) (uf0_ jy)) : ki ≠ ms)); replace jy := bb_ jy hb; clear hb hbox hg; have cb9 := cj7.out; have cc0 := cj8.out; obtain ⟨ko, kr, ks, kt⟩ := blk2_ jy) | ((with_reducible refine gate_callee (f := 73) rfl ?_); refine goesL_ (some 5) rfl rfl Try.func73 k_ rfl #[.agg #[.slice af ab.length ae, .slice ah aa.length ag]] rfl (g3_) ?_; (with_reducible refine (impl_isBook.calls k _ _ ab _ _ aa true _ ?side1 ?side2 ?side3 ?side4 A2.out).mono ?_); (case side1 => exact uf2_ b7); (case side2 => exact cn.out); (case side3 => exact uf2_ bz); (case side4 => exact cr.out); rintro e w9 ⟨rfl, hb⟩; refine ⟨_, rfl, ?_⟩; replace jy := bb_ jy hb; replace oz := bb_ oz hb; replace HB := Aside0.mk (below_step (nw) hb); (try clear hb); (try clear hk hi); obtain ⟨m7, m8, m9, na⟩ := blk2_ jy) | ((with_reducible refine gate_callee (f := 99) rfl ?_); refine goesL_ (some 9) rfl rfl Try.func99 k_ rfl #[.agg #[.slice af ab.length ae, .slice ah aa.length ag]] rfl (g3_) ?_; (with_reducible refine (impl_withoutCircles.calls k _ _ ab _ _ aa av4 bo1 fc6 _ ?side1 ?side2 ?side3 ?side4 A4.out).mono ?_); (case side1 => exact uf2_ b7); (case side2 => exact cn.out); (case side3 => exact uf2_ bz); (case side4 => exact cr.out); rintro e w11 ⟨fc9, gk1, rfl, ac, b6, hb⟩; refine ⟨_, rfl, ?_⟩; have dl8 := Aside0.mk (Kd.R_lower (Kd.R_newM (M := fun k_ => (w.heap.size ≤ k_)) (Kd.R_mono (ok' := fun k_ => True) ac (fun _ hk_ => trivial)) (below_size (nw)) (fun k_ h_ => h_)) (below_size (nw))); have dl9 := Aside0.mk (Kd.N_lower (Kd.N_mono (ok' := fun k_ => (w.heap.size ≤ k_) ∧ some k_ ≠ (fc9 : Value).ownBlock ∧ k_ ≠ ms ∧ k_ ≠ ki) b6 (fun k_ hk_ => ⟨(Nat.le_trans (below_size (nw)) hk_.1), hk_.2, (Kd.freshB (g := ms) (o := .cells #[.slice af ab.length ae, .slice ah aa.length ag] 25 (0, 0)) (uf0_ jy) k_ hk_.1), (Kd.freshB (g := ki) (o := .cells #[.slice none 0 0, .slice none 0 0] 25 (0, 0)) (uf0_ oz) k_ hk_.1)⟩)) (below_size (nw))); replace jy := bb_ jy hb; replace oz := bb_ oz hb; replace HB := Aside0.mk (below_step (nw) hb); (try clear hb); (try clear hk hi); (try clear ac); (try clear b6); obtain ⟨bo2, bo3, fd0⟩ := Kd.R_slice dl8.out; subst fd0; obtain ⟨ol, om, oo, op⟩ := blk2_ oz; obtain ⟨an, ak, j9⟩ := Kd.N_slice dl9.out; subst j9))
  refine bodyPost_ret (results_ct rfl _ _ ki 25 #[.slice bo2 av4.length bo3, .slice an bo1.length ak] (0, 0) _ rfl (by (with_reducible repeat (first | refine blk_drewN ?_ _ | refine blk_drew ?_ | refine blk_alloc ?_ _)); refine blk_put (cs := #[.slice bo2 av4.length bo3, .slice none 0 0]) ?_ 1 _ rfl; refine blk_put (cs := #[.slice none 0 0, .slice none 0 0]) ?_ 0 _ rfl; exact uf0_ oz) Try.underlying25 rfl (g1_)) rfl ?_
  exact ⟨_, _, g4_, by (with_reducible repeat (first | apply Kd.R_alloc | apply Kd.R_drewN | apply Kd.R_drew)); exact Kd.R_mono (Kd.R_far (p := ⟨ki, 1, none⟩) (Kd.R_far (p := ⟨ki, 0, none⟩) (Kd.R_types dl8.out oz.out (by decide)) (fun _ hk => hk.2) (.slice bo2 av4.length bo3)) (fun _ hk => hk.2) (.slice an bo1.length ak)) (fun _ hk => hk.1.1), by (with_reducible repeat (first | apply Kd.N_alloc | apply Kd.N_drewN | apply Kd.N_drew)); exact Kd.N_mono (Kd.N_far (p := ⟨ki, 1, none⟩) (Kd.N_far (p := ⟨ki, 0, none⟩) (Kd.N_mono dl9.out (fun k_ hk => (⟨hk, hk.2.2.2⟩ : _ ∧ k_ ≠ ki))) (fun _ hk => hk.2) (.slice bo2 av4.length bo3)) (fun _ hk => hk.2) (.slice an bo1.length ak)) (fun _ hk => ⟨hk.1.1, hk.1.2.1⟩), nw⟩
 ·replace c3 := Bool.eq_false_iff.mpr c3
  subst c3
  replace H := ifn_ H
  simp only [Option.some.injEq, Prod.mk.injEq] at H
  obtain ⟨rfl, rfl, rfl⟩ := H
  go_enter Try.func52, Try.ntmps52
  go_wp2_with (first | ((with_reducible refine gate_dst (N := 1) rfl ?_); refine bx_ (N := 1) #[.slice af ab.length ae, .slice ah aa.length ag] 25 ?_; intro ms hg w15 hbox hb; have jy := Aside0.mk (hbox); have fc7 := Aside0.mk ((g29_ : w.heap.size ≤ ms)); have dl6 := Aside0.mk ((g29_ : w.heap.size ≤ ms)); replace HB := Aside0.mk (below_step (nw) hb); clear hb hbox hg) | ((with_reducible refine gate_dst (N := 2) rfl ?_); refine bx_ (N := 2) #[.slice none 0 0, .slice none 0 0] 25 ?_; intro ki hg tc hbox hb; have oz := Aside0.mk (hbox); have fc8 := Aside0.mk ((g29_ : w.heap.size ≤ ki)); have dl7 := Aside0.mk ((g29_ : w.heap.size ≤ ki)); replace HB := Aside0.mk (below_step (nw) hb); have cj7 := Aside0.mk ((by rw [hg]; exact Nat.ne_of_lt (blk_lt (g := ms) (o := .cells #[.slice af ab.length ae, .slice ah aa.length ag] 25 (0, 0)) (uf0_ jy)) : ms ≠ ki)); have cj8 := Aside0.mk ((by rw [hg]; exact Nat.ne_of_gt (blk_lt (g := ms) (o := .cells #[.slice af ab.length ae, .slice ah aa.length ag] 25 (0, 0)) (uf0_ jy)) : ki ≠ ms)); replace jy := bb_ jy hb; clear hb hbox hg; have fb4 := cj7.out; have fb5 := cj8.out; obtain ⟨mz, m0, m3, m4⟩ := blk2_ jy) | ((with_reducible refine gate_callee (f := 73) rfl ?_); refine goesL_ (some 5) rfl rfl Try.func73 k_ rfl #[.agg #[.slice af ab.length ae, .slice ah aa.length ag]] rfl (g3_) ?_; (with_reducible refine (impl_isBook.calls k _ _ ab _ _ aa false _ ?side1 ?side2 ?side3 ?side4 A2.out).mono ?_); (case side1 => exact uf2_ b7); (case side2 => exact cn.out); (case side3 => exact uf2_ bz); (case side4 => exact cr.out); rintro e te ⟨rfl, hb⟩; refine ⟨_, rfl, ?_⟩; replace jy := bb_ jy hb; replace oz := bb_ oz hb; replace HB := Aside0.mk (below_step (nw) hb); (try clear hb); (try clear hk hi); obtain ⟨bg3, bg4, bg5, bg6⟩ := blk2_ oz))
  refine bodyPost_ret (results_ct rfl _ _ ki 25 #[.slice none 0 0, .slice none 0 0] (0, 0) _ rfl (by (with_reducible repeat (first | refine blk_drewN ?_ _ | refine blk_drew ?_ | refine blk_alloc ?_ _)); refine blk_put (cs := #[.slice none 0 0, .slice none 0 0]) ?_ 1 _ rfl; refine blk_put (cs := #[.slice none 0 0, .slice none 0 0]) ?_ 0 _ rfl; exact uf0_ oz) Try.underlying25 rfl (g1_)) rfl ?_
  exact ⟨_, _, g4_, g22_, g20_, nw⟩
def spec_l1In.f (a0 : Int) (a1 : Int) (a2 : Int) : Option (Bool) := if a0 ≥ a1 then (some (decide (a0 ≤ a2))) else (some false)
set_option maxHeartbeats 8000000 in
set_option maxRecDepth 100000 in
theorem spec_l1In.calls (a0 : Int) (a1 : Int) (a2 : Int) (r : Bool) (w : World) (h : spec_l1In.f a0 a1 a2 = some r) :
  Calls Try.prog 65 #[.int .i64 a0, .int .i64 a1, .int .i64 a2] w fun e w' => e = .returned (.bool r) ∧ Drawn0 w w' := by
 have H : (if a0 ≥ a1 then (some (decide (a0 ≤ a2))) else (some false)) = some r := h
 clear h
 by_cases c4 : a0 ≥ a1
 ·rw [if_pos c4] at H
  have i8 := decide_eq_true c4
  clear c4
  obtain rfl := Option.some.inj H
  go_enter Try.func65, Try.ntmps65
  go_wp2
  go_ret
  exact ⟨g2_, g5_⟩
 ·rw [if_neg c4] at H
  have i8 := decide_eq_false c4
  clear c4
  obtain rfl := Option.some.inj H
  go_enter Try.func65, Try.ntmps65
  go_wp2
  go_ret
  exact ⟨g2_, g5_⟩
mutual
def spec_BookOk.j0 : Nat → Bool → List Int → List (List Int) → Option (Bool)
 | 0, _, _, _ => none
 | k + 1, x18, n9, k0 => if x18 = true then (some false) else (spec_BookOk.l0 k 0 n9 k0)
def spec_BookOk.l0 : Nat → Int → List Int → List (List Int) → Option (Bool)
 | 0, _, _, _ => none
 | k + 1, x3, n9, k0 => if x3 < (n9.length : Int) then (if 0 ≤ x3 then ((spec_l1In.f (rd n9 x3) 0 20).bind fun bw1 => (if bw1 = true then (if x3 < (k0.length : Int) then (if ((rd_L1 k0 x3).length : Int) = (n9.length : Int) then (if x3 < ((rd_L1 k0 x3).length : Int) then (spec_BookOk.j2 k x3 ((rd (rd_L1 k0 x3) x3) != 0) n9 k0) else (none)) else (spec_BookOk.j2 k x3 true n9 k0)) else (none)) else (spec_BookOk.j2 k x3 true n9 k0))) else (none)) else (some true)
def spec_BookOk.j2 : Nat → Int → Bool → List Int → List (List Int) → Option (Bool)
 | 0, _, _, _, _ => none
 | k + 1, x3, x55, n9, k0 => if x55 = true then (some false) else (spec_BookOk.l1 k x3 0 n9 k0)
def spec_BookOk.l1 : Nat → Int → Int → List Int → List (List Int) → Option (Bool)
 | 0, _, _, _, _ => none
 | k + 1, x3, x4, n9, k0 => if 0 ≤ x3 then (if x3 < (k0.length : Int) then (if x4 < ((rd_L1 k0 x3).length : Int) then (if 0 ≤ x4 then ((spec_l1In.f (rd (rd_L1 k0 x3) x4) 0 9).bind fun bw2 => (if bw2 = true then (spec_BookOk.l1 k x3 (wrap64 (x4 + 1)) n9 k0) else (some false))) else (none)) else (spec_BookOk.l0 k (wrap64 (x3 + 1)) n9 k0)) else (none)) else (none)
end
def spec_BookOk.f (k : Nat) (ab : List Int) (aa : List (List Int)) : Option (Bool) := (spec_l1In.f (ab.length : Int) 1 4).bind fun an8 => (if an8 = true then (spec_BookOk.j0 k ((aa.length : Int) != (ab.length : Int)) ab aa) else (spec_BookOk.j0 k true ab aa))
theorem spec_BookOk.mq {p : Prop} (h : p := by
 repeat' first
 | (with_reducible exact ih0 _ _ _)
 | (with_reducible exact ih1 _ _ _)
 | (with_reducible exact ih2 _ _ _ _)
 | (with_reducible exact ih3 _ _ _ _)
 | (with_reducible exact LeO.refl _)
 | (with_reducible exact LeO.none _)
 | (with_reducible refine LeO.ite ?_ ?_)
 | (with_reducible refine LeO.bind ?_ (fun _ => ?_))
 | exact ih0 _ _ _
 | exact ih1 _ _ _
 | exact ih2 _ _ _ _
 | exact ih3 _ _ _ _
 | exact LeO.none _
 | refine LeO.ite ?_ ?_
 | refine LeO.bind ?_ (fun _ => ?_)) : p := h
theorem spec_BookOk.mono_l : ∀ k, (∀ y0 y1 y2, LeO (spec_BookOk.j0 k y0 y1 y2) (spec_BookOk.j0 (k + 1) y0 y1 y2)) ∧ (∀ y0 y1 y2, LeO (spec_BookOk.l0 k y0 y1 y2) (spec_BookOk.l0 (k + 1) y0 y1 y2)) ∧ (∀ y0 y1 y2 y3, LeO (spec_BookOk.j2 k y0 y1 y2 y3) (spec_BookOk.j2 (k + 1) y0 y1 y2 y3)) ∧ (∀ y0 y1 y2 y3, LeO (spec_BookOk.l1 k y0 y1 y2 y3) (spec_BookOk.l1 (k + 1) y0 y1 y2 y3))
 | 0 => ⟨fun _ _ _ r h => by simp [spec_BookOk.j0] at h, fun _ _ _ r h => by simp [spec_BookOk.l0] at h, fun _ _ _ _ r h => by simp [spec_BookOk.j2] at h, fun _ _ _ _ r h => by simp [spec_BookOk.l1] at h⟩
 | k + 1 => by
  obtain ⟨ih0, ih1, ih2, ih3⟩ := spec_BookOk.mono_l k
  refine ⟨?_, ?_, ?_, ?_⟩
  ·intro y0 y1 y2
   unfold spec_BookOk.j0
   exact spec_BookOk.mq
  ·intro y0 y1 y2
   unfold spec_BookOk.l0
   exact spec_BookOk.mq
  ·intro y0 y1 y2 y3
   unfold spec_BookOk.j2
   exact spec_BookOk.mq
  ·intro y0 y1 y2 y3
   unfold spec_BookOk.l1
   exact spec_BookOk.mq
theorem spec_BookOk.mono : ∀ a0 a1 k, LeO (spec_BookOk.f k a0 a1) (spec_BookOk.f (k + 1) a0 a1) := by
 intro a0 a1 k
 obtain ⟨ih0, ih1, ih2, ih3⟩ := spec_BookOk.mono_l k
 unfold spec_BookOk.f
 exact spec_BookOk.mq
def spec_BookOk.T6 : Bool × List (List Nat × List Nat) := (true, [([], []), ([0], [0]), ([], []), ([1, 2], [1, 2]), ([3], [3]), ([4], [4]), ([5], [5]), ([6, 5], [6]), ([7], [7]), ([8, 7], [7, 8]), ([7], [7]), ([9, 10, 7], [7, 9, 10]), ([11, 7], [7, 11]), ([12, 7], [7, 12]), ([7], [7]), ([14, 7], [7, 14]), ([15, 7], [7, 15]), ([13, 16, 7], [7, 13, 16]), ([7, 17], [7, 17]), ([18, 7], [18]), ([19], [19]), ([20, 19], [19, 20]), ([19], [19]), ([21, 22, 19], [19, 21, 22]), ([23, 19], [19, 23]), ([19], [19]), ([24, 25, 19], [19, 24, 25]), ([26, 19], [19, 26]), ([27, 19], [19, 27]), ([19, 28], [19, 28])])
def spec_BookOk.B6 : List Nat := [0, 1, 0, 7, 15, 31, 63, 127, 255, 511, 255, 2047, 4095, 8191, 255, 16639, 49407, 131071, 262143, 524287, 1048575, 2097151, 1048575, 8388607, 16777215, 1048575, 67108863, 134217727, 268435455, 536870911]
theorem spec_BookOk.tab6 : rtab .any (opsOf Try.f42 6) = spec_BookOk.T6 := by kernel_rfl
theorem spec_BookOk.bits6 : waitsOk spec_BookOk.T6.2 spec_BookOk.B6 = true := by kernel_rfl
theorem l5 {p : Prop} (h : p := by repeat (first | (with_reducible first | exact HB.out | apply below_alloc | apply pw_below_drewN | apply below_drew1 | refine below_set ?_ eg0.out) | exact HB.out)) : p := h
set_option maxHeartbeats 8000000 in
set_option maxRecDepth 100000 in
theorem spec_BookOk.calls (k : Nat) (af : Option Addr) (ae : Nat) (ab : List Int) (ah : Option Addr) (ag : Nat) (aa : List (List Int)) (r : Bool) (w : World) (cg : Kd.C (Kd.int .i64) w af ab.length ab) (ck : ab.length ≤ ae) (ch : Kd.C (Kd.slice 3 (Kd.int .i64)) w ah aa.length aa) (cl : aa.length ≤ ag) (h : spec_BookOk.f k ab aa = some r) :
  Calls Try.prog 42 #[.agg #[.slice af ab.length ae, .slice ah aa.length ag]] w fun e w' => e = .returned (.bool r) ∧ Below w.heap.size w w' := by
 have hu25 := Try.underlying25
 have b7 := Aside0.mk cg
 have cn := Aside0.mk ck
 clear cg ck
 have bz := Aside0.mk ch
 have cr := Aside0.mk cl
 clear ch cl
 have HB := Aside0.mk (Below.refl w.heap.size w)
 have H : ((spec_l1In.f (ab.length : Int) 1 4).bind fun an8 => (if an8 = true then (spec_BookOk.j0 k ((aa.length : Int) != (ab.length : Int)) ab aa) else (spec_BookOk.j0 k true ab aa))) = some r := h
 clear h
 have pu := Aside0.mk H
 clear H
 go_enter Try.func42, Try.ntmps42
 go_upto_region 1 with (first | ((with_reducible refine gate_dst (N := 1) rfl ?_); (try (refine gate_guard (by rfl) ?_; dsimp only)); refine bx_ (N := 1) #[.slice af ab.length ae, .slice ah aa.length ag] 25 ?_; intro pb hg w3 hbox hb; have d3 := Aside0.mk (hbox); have fr2 := Aside0.mk ((by rw [hg]; exact (below_size (l5)) : w.heap.size ≤ pb)); have eg0 := Aside0.mk ((by rw [hg]; exact (below_size (l5)) : w.heap.size ≤ pb)); replace HB := Aside0.mk (below_step (l5) hb); clear hb hbox hg))
 (try simp only [Act.put, List.setIfInBounds_toArray, List.set_cons_zero, List.set_cons_succ])
 go_cut [18] (fun v18 wc => ∃ (kq : Nat) (be4 : Bool), v18 = .bool be4 ∧ Aside0 (spec_BookOk.j0 kq be4 ab aa = some r) ∧ Aside0 (kq ≤ k) ∧ Aside0 (wc.heap[pb]? = some (.cells #[(.slice af ab.length ae), (.slice ah aa.length ag)] 25 (0, 0))) ∧ Aside0 (Below w.heap.size w wc))
 case first =>
  have H := pu.out
  clear pu
  obtain ⟨an8, A4, H⟩ := bind_ H
  by_cases c5 : an8 = true
  ·subst c5
   replace H := ifp_ H
   have H' := Aside0.mk H
   clear H
   obtain ⟨rs, rt, vc, ru⟩ := blk2_ d3
   go_wp2_with (first | ((with_reducible refine gate_callee (f := 65) rfl ?_); refine goesL_ (some 8) rfl rfl Try.func65 k_ rfl #[.int .i64 (ab.length : Int), .int .i64 1, .int .i64 4] rfl (g3_) ?_; (with_reducible refine (spec_l1In.calls (ab.length : Int) 1 4 true _ A4.out).mono ?_); rintro e w' ⟨rfl, ⟨nd, rfl⟩⟩; refine ⟨_, rfl, ?_⟩))
   go_meet
   case rel => exact ⟨_, (((aa.length : Int) != (ab.length : Int))), (g2_), H', ⟨g12_⟩, ⟨uf0_ d3⟩, ⟨l5⟩⟩
  ·replace c5 := Bool.eq_false_iff.mpr c5
   subst c5
   replace H := ifn_ H
   have H' := Aside0.mk H
   clear H
   obtain ⟨l7, l8, l9, ma⟩ := blk2_ d3
   go_wp2_with (first | ((with_reducible refine gate_callee (f := 65) rfl ?_); refine goesL_ (some 8) rfl rfl Try.func65 k_ rfl #[.int .i64 (ab.length : Int), .int .i64 1, .int .i64 4] rfl (g3_) ?_; (with_reducible refine (spec_l1In.calls (ab.length : Int) 1 4 false _ A4.out).mono ?_); rintro e w' ⟨rfl, ⟨nd, rfl⟩⟩; refine ⟨_, rfl, ?_⟩))
   go_meet
   case rel => exact ⟨_, (true), (g2_), H', ⟨g12_⟩, ⟨uf0_ d3⟩, ⟨l5⟩⟩
 case rest =>
  clear pu
  try clear p2
  try clear c4
  try clear c5
  try clear c6
  try clear rs
  try clear rt
  try clear l7
  try clear l8
  try clear vc
  try clear ru
  try clear l9
  try clear ma
  obtain ⟨kq, be4, rfl, HA, HJ1, d3, HB⟩ := hcut
  cases kq with
  | zero => exact absurd HA.out (by simp [spec_BookOk.j0])
  | succ kj1 =>
   have H := HA.out
   clear HA
   simp only [spec_BookOk.j0] at H
   by_cases c8 : be4 = true
   ·subst c8
    replace H := ifp_ H
    obtain rfl := Option.some.inj H
    go_wp2
    go_ret
    exact ⟨g4_, l5⟩
   ·replace c8 := Bool.eq_false_iff.mpr c8
    subst c8
    replace H := ifn_ H
    have H' := Aside0.mk H
    clear H
    go_wp2
    go_loopg [3] kj1 (fun kq v3 w' => ∃ (bl : Int), v3 = .int .i64 bl ∧ Aside0 (spec_BookOk.l0 kq bl ab aa = some r) ∧ Aside0 (kq ≤ kj1) ∧ Aside0 (w'.heap[pb]? = some (.cells #[(.slice af ab.length ae), (.slice ah aa.length ag)] 25 (0, 0))) ∧ Aside0 (Below w.heap.size w w'))
    case atStart => exact ⟨(0), (g2_), H', ⟨Nat.le_refl _⟩, ⟨uf0_ d3⟩, ⟨l5⟩⟩
    case round =>
     clear H'
     try clear p2
     try clear c4
     try clear c5
     try clear c6
     try clear c8
     try clear rs
     try clear rt
     try clear l7
     try clear l8
     try clear vc
     try clear ru
     try clear l9
     try clear ma
     try clear p2
     obtain ⟨bl, rfl, HA, HK2, d3, HB⟩ := hrel
     cases gk with
     | zero => exact absurd HA.out (by simp [spec_BookOk.l0])
     | succ k2 =>
      have H := HA.out
      clear HA
      simp only [spec_BookOk.l0] at H
      by_cases c9 : bl < (ab.length : Int)
      ·rw [if_pos c9] at H
       have p7 := decide_eq_true c9
       clear c9
       have bw3 := Aside0.mk H
       clear H
       obtain ⟨yt, yu, yv, yw⟩ := blk2_ d3
       go_upto_region 6 with (fail)
       go_cut [55] (fun r0 wc => ∃ (kq : Nat) (be5 : Bool), r0 = .bool be5 ∧ Aside0 (spec_BookOk.j2 kq bl be5 ab aa = some r) ∧ Aside0 (kq ≤ k2) ∧ Aside0 (wc.heap[pb]? = some (.cells #[(.slice af ab.length ae), (.slice ah aa.length ag)] 25 (0, 0))) ∧ Aside0 (Below w.heap.size w wc))
       case first =>
        have H := bw3.out
        clear bw3
        obtain ⟨d2, H⟩ := pos_ H
        have lm := decide_eq_true d2
        clear d2
        (first | rw [lm] | (simp only [i64_w, i32_w]; rw [lm]) | skip)
        obtain ⟨bw1, A13, H⟩ := bind_ H
        by_cases f2 : bw1 = true
        ·subst f2
         replace H := ifp_ H
         obtain ⟨cb, H⟩ := pos_ H
         have gv := decide_eq_true cb
         clear cb
         by_cases ed : ((rd_L1 aa bl).length : Int) = (ab.length : Int)
         ·rw [if_pos ed] at H
          have o3 : (((rd_L1 aa bl).length : Int) == (ab.length : Int)) = true := beq_iff_eq.mpr ed
          have bw4 : (((rd_L1 aa bl).length : Int) != (ab.length : Int)) = false := bne_eq_false_iff_eq.mpr ed
          have bw5 : ((rd_L1 aa bl).length == ab.length) = true := by first | simpa using ed | (simp at ed ⊢; omega)
          clear ed
          obtain ⟨ep, H⟩ := pos_ H
          have o0 := decide_eq_true ep
          clear ep
          have H' := Aside0.mk H
          clear H
          try go_wp2
          replace d3 := Aside0.mk (blk_drew d3.out)
          replace HB := Aside0.mk (below_drew1 HB.out)
          have oa : 0 ≤ (bl : Int) := of_decide_eq_true (g0_)
          have ob : bl < (ab.length : Int) := of_decide_eq_true (g0_)
          obtain ⟨vm, an9, ls⟩ := Kd.at_int b7.out bl oa ob
          have vn := ls
          cases an9
          replace ls := cl_ HB ls
          replace oa := eq_true oa
          replace ob := eq_true ob
          have tm : 0 ≤ (bl : Int) := of_decide_eq_true (g0_)
          have tn : bl < (aa.length : Int) := of_decide_eq_true (g0_)
          obtain ⟨zb, cw1, be6, bw6, pc, ao0, ao1⟩ := at_L1 bz.out bl tm tn
          have ao2 := pc
          cases bw6
          replace pc := cl_ HB pc
          have bw7 := Aside0.mk ao1
          have eg1 := Aside0.mk ao0
          clear ao1 ao0
          replace tm := eq_true tm
          replace tn := eq_true tn
          have bw8 : 0 ≤ (bl : Int) := of_decide_eq_true (g0_)
          have bw9 : bl < (aa.length : Int) := of_decide_eq_true (g0_)
          obtain ⟨eg2, fr3, fr4, eg3, ao3, cw2, cw3⟩ := at_L1 bz.out bl bw8 bw9
          have cw4 := ao3
          obtain rfl : zb = eg2 := (by injection eg3)
          replace ao3 := cl_ HB ao3
          have cw5 := Aside0.mk cw3
          have fr5 := Aside0.mk cw2
          clear cw3 cw2
          replace bw8 := eq_true bw8
          replace bw9 := eq_true bw9
          have ea_ := Option.some.inj (pc.symm.trans ao3)
          injection ea_ with ea_ en_ ec_
          subst ea_
          subst ec_
          clear en_
          have bx0 : 0 ≤ (bl : Int) := of_decide_eq_true (g0_)
          have bx1 : bl < ((rd_L1 aa bl).length : Int) := of_decide_eq_true (g0_)
          obtain ⟨bx2, eg4, be7⟩ := Kd.at_int cw5.out bl bx0 bx1
          have cw6 := be7
          cases eg4
          replace be7 := cl_ HB be7
          replace bx0 := eq_true bx0
          replace bx1 := eq_true bx1
          refine start_ (n := 30) (S := fun w' => w'.cell? ⟨pb, 0, none⟩ = some (.slice (some vm) ab.length ae) ∧ w'.cell? ⟨pb, 1, none⟩ = some (.slice (some zb) aa.length ag) ∧ w'.cell? (vm.add (bl).toNat) = some (.int .i64 (rd ab bl)) ∧ w'.cell? (zb.add (bl).toNat) = some (.slice (some bx2) (rd_L1 aa bl).length be6) ∧ w'.cell? (zb.add (bl).toNat) = some (.slice (some bx2) (rd_L1 aa bl).length be6) ∧ w'.cell? (bx2.add (bl).toNat) = some (.int .i64 (rd (rd_L1 aa bl) bl))) (ds := []) (tl_ 30 0) (g1_) rfl (g1_) ⟨(blk_cell d3.out 0).trans rfl, (blk_cell d3.out 1).trans rfl, ((cl_ HB vn).trans rfl), ((cl_ HB ao2).trans rfl), ((cl_ HB cw4).trans rfl), ((cl_ HB cw6).trans rfl)⟩ (fun hHeld => ?_); refine with_tabW spec_BookOk.tab6 spec_BookOk.bits6 (fun HT_ HW_ => ?_)
          generalize wr.drew = w18 at d3 HB bw7 cw5 ls pc ao3 be7 hHeld ⊢
          refine pw_ 0 26 (tl_ 30 1) rfl rfl ?_
          refine pw_ 2 28 (tl_ 30 5) rfl rfl ?_
          refine tk2_ 1 27 (tl_ 30 7) rfl rfl hHeld ?_
          refine pw_ 3 29 (tl_ 30 15) rfl rfl ?_
          refine tk2_ 4 30 (tl_ 30 31) rfl rfl hHeld ?_
          refine one_ (i := 5) (N := some 31) (tl_ 30 63) rfl rfl (one_of HT_.out (g1_)) (by decide) (fun K hK => ?_)
          refine goes_ Try.func65 (g1_) rfl #[.int .i64 (rd ab bl), .int .i64 0, .int .i64 20] (by rfl) rfl rfl (g3_) ?_
          with_reducible refine (spec_l1In.calls (rd ab bl) 0 20 true _ A13.out).mono ?_
          rintro e w' ⟨rfl, ⟨nd, rfl⟩⟩
          refine ⟨_, rfl, ?_⟩
          refine hK.out _ _ ⟨(blk_cell d3.out 0).trans rfl, (blk_cell d3.out 1).trans rfl, ((cl_ HB vn).trans rfl), ((cl_ HB ao2).trans rfl), ((cl_ HB cw4).trans rfl), ((cl_ HB cw6).trans rfl)⟩ (fun hHeld => ?_)
          clear hK K
          refine nm_ ?_
          refine pw_ 6 32 (tl_ 30 127) rfl rfl ?_
          refine pw_ 7 33 (tl_ 30 255) rfl rfl ?_
          refine pw_ 8 34 (tl_ 30 511) rfl rfl ?_
          refine pw_ 10 36 (tl_ 30 1535) rfl rfl ?_
          refine pw_ 14 40 (tl_ 30 17919) rfl rfl ?_
          refine tk2_ 9 35 (tl_ 30 18431) rfl rfl hHeld ?_
          refine pw_ 11 37 (tl_ 30 20479) rfl rfl ?_
          refine tk2_ 12 38 (tl_ 30 24575) rfl rfl hHeld ?_
          refine pw_ 13 39 (tl_ 30 32767) rfl rfl ?_
          refine tk2_ 15 41 (tl_ 30 65535) rfl rfl hHeld ?_
          refine pw_ 16 42 (tl_ 30 131071) rfl rfl ?_
          refine pw_ 17 43 (tl_ 30 262143) rfl rfl ?_
          refine pw_ 18 44 (tl_ 30 524287) rfl rfl ?_
          refine pw_ 19 45 (tl_ 30 1048575) rfl rfl ?_
          refine pw_ 20 46 (tl_ 30 2097151) rfl rfl ?_
          refine pw_ 22 48 (tl_ 30 6291455) rfl rfl ?_
          refine pw_ 25 51 (tl_ 30 39845887) rfl rfl ?_
          refine tk2_ 21 47 (tl_ 30 41943039) rfl rfl hHeld ?_
          refine pw_ 23 49 (tl_ 30 50331647) rfl rfl ?_
          refine tk2_ 24 50 (tl_ 30 67108863) rfl rfl hHeld ?_
          refine pw_ 26 52 (tl_ 30 134217727) rfl rfl ?_
          refine tk2_ 27 53 (tl_ 30 268435455) rfl rfl hHeld ?_
          refine pw_ 28 54 (tl_ 30 536870911) rfl rfl ?_
          refine pw_ 29 55 (tl_ 30 1073741823) rfl rfl ?_
          refine done_ (done_of HT_.out (g1_)) ?_
          try go_wp2
          go_meet
          case rel => exact ⟨_, (((rd (rd_L1 aa bl) bl) != 0)), (g2_), H', ⟨g30_⟩, ⟨uf0_ d3⟩, ⟨l5⟩⟩
         ·rw [if_neg ed] at H
          have o3 : (((rd_L1 aa bl).length : Int) == (ab.length : Int)) = false := beq_eq_false_iff_ne.mpr ed
          have bw4 : (((rd_L1 aa bl).length : Int) != (ab.length : Int)) = true := bne_iff_ne.mpr ed
          have bw5 : ((rd_L1 aa bl).length == ab.length) = false := by first | simpa using ed | (simp at ed ⊢; omega)
          have H' := Aside0.mk H
          clear H
          try go_wp2
          replace d3 := Aside0.mk (blk_drew d3.out)
          replace HB := Aside0.mk (below_drew1 HB.out)
          have oa : 0 ≤ (bl : Int) := of_decide_eq_true (g0_)
          have ob : bl < (ab.length : Int) := of_decide_eq_true (g0_)
          obtain ⟨vm, an9, ls⟩ := Kd.at_int b7.out bl oa ob
          have vn := ls
          cases an9
          replace ls := cl_ HB ls
          replace oa := eq_true oa
          replace ob := eq_true ob
          have tm : 0 ≤ (bl : Int) := of_decide_eq_true (g0_)
          have tn : bl < (aa.length : Int) := of_decide_eq_true (g0_)
          obtain ⟨zb, cw1, be6, bw6, pc, ao0, ao1⟩ := at_L1 bz.out bl tm tn
          have ao2 := pc
          cases bw6
          replace pc := cl_ HB pc
          have bw7 := Aside0.mk ao1
          have eg1 := Aside0.mk ao0
          clear ao1 ao0
          replace tm := eq_true tm
          replace tn := eq_true tn
          refine start_ (n := 30) (S := fun w' => w'.cell? ⟨pb, 0, none⟩ = some (.slice (some vm) ab.length ae) ∧ w'.cell? ⟨pb, 1, none⟩ = some (.slice (some zb) aa.length ag) ∧ w'.cell? (vm.add (bl).toNat) = some (.int .i64 (rd ab bl)) ∧ w'.cell? (zb.add (bl).toNat) = some (.slice cw1 (rd_L1 aa bl).length be6)) (ds := []) (tl_ 30 0) (g1_) rfl (g1_) ⟨(blk_cell d3.out 0).trans rfl, (blk_cell d3.out 1).trans rfl, ((cl_ HB vn).trans rfl), ((cl_ HB ao2).trans rfl)⟩ (fun hHeld => ?_); refine with_tabW spec_BookOk.tab6 spec_BookOk.bits6 (fun HT_ HW_ => ?_)
          generalize wr.drew = te at d3 HB bw7 ls pc hHeld ⊢
          refine pw_ 0 26 (tl_ 30 1) rfl rfl ?_
          refine pw_ 2 28 (tl_ 30 5) rfl rfl ?_
          refine tk3_ 1 27 (tl_ 30 7) rfl rfl hHeld ?_
          refine pw_ 3 29 (tl_ 30 15) rfl rfl ?_
          refine tk3_ 4 30 (tl_ 30 31) rfl rfl hHeld ?_
          refine one_ (i := 5) (N := some 31) (tl_ 30 63) rfl rfl (one_of HT_.out (g1_)) (by decide) (fun K hK => ?_)
          refine goes_ Try.func65 (g1_) rfl #[.int .i64 (rd ab bl), .int .i64 0, .int .i64 20] (by rfl) rfl rfl (g3_) ?_
          with_reducible refine (spec_l1In.calls (rd ab bl) 0 20 true _ A13.out).mono ?_
          rintro e w' ⟨rfl, ⟨nd, rfl⟩⟩
          refine ⟨_, rfl, ?_⟩
          refine hK.out _ _ ⟨(blk_cell d3.out 0).trans rfl, (blk_cell d3.out 1).trans rfl, ((cl_ HB vn).trans rfl), ((cl_ HB ao2).trans rfl)⟩ (fun hHeld => ?_)
          clear hK K
          refine nm_ ?_
          refine pw_ 6 32 (tl_ 30 127) rfl rfl ?_
          refine pw_ 7 33 (tl_ 30 255) rfl rfl ?_
          refine pw_ 8 34 (tl_ 30 511) rfl rfl ?_
          refine pw_ 10 36 (tl_ 30 1535) rfl rfl ?_
          refine pw_ 14 40 (tl_ 30 17919) rfl rfl ?_
          refine tk3_ 9 35 (tl_ 30 18431) rfl rfl hHeld ?_
          refine pw_ 11 37 (tl_ 30 20479) rfl rfl ?_
          refine tk3_ 12 38 (tl_ 30 24575) rfl rfl hHeld ?_
          refine pw_ 13 39 (tl_ 30 32767) rfl rfl ?_
          refine tk3_ 15 41 (tl_ 30 65535) rfl rfl hHeld ?_
          refine pw_ 16 42 (tl_ 30 131071) rfl rfl ?_
          refine pw_ 17 43 (tl_ 30 262143) rfl rfl ?_
          refine pw_ 18 44 (tl_ 30 524287) rfl rfl ?_
          refine pw_ 19 45 (tl_ 30 1048575) rfl rfl ?_
          refine pu_ 20 46 (tl_ 30 2097151) rfl rfl ?_
          refine pu_ 21 47 (tl_ 30 4194303) rfl rfl ?_
          refine pu_ 22 48 (tl_ 30 8388607) rfl rfl ?_
          refine pu_ 23 49 (tl_ 30 16777215) rfl rfl ?_
          refine pu_ 24 50 (tl_ 30 33554431) rfl rfl ?_
          refine pu_ 25 51 (tl_ 30 67108863) rfl rfl ?_
          refine pu_ 26 52 (tl_ 30 134217727) rfl rfl ?_
          refine pu_ 27 53 (tl_ 30 268435455) rfl rfl ?_
          refine pu_ 28 54 (tl_ 30 536870911) rfl rfl ?_
          refine pw_ 29 55 (tl_ 30 1073741823) rfl rfl ?_
          refine done_ (done_of HT_.out (g1_)) ?_
          try go_wp2
          go_meet
          case rel => exact ⟨_, (true), (g2_), H', ⟨g30_⟩, ⟨uf0_ d3⟩, ⟨l5⟩⟩
        ·replace f2 := Bool.eq_false_iff.mpr f2
         subst f2
         replace H := ifn_ H
         have H' := Aside0.mk H
         clear H
         try go_wp2
         replace d3 := Aside0.mk (blk_drew d3.out)
         replace HB := Aside0.mk (below_drew1 HB.out)
         have oa : 0 ≤ (bl : Int) := of_decide_eq_true (g0_)
         have ob : bl < (ab.length : Int) := of_decide_eq_true (g0_)
         obtain ⟨vm, an9, ls⟩ := Kd.at_int b7.out bl oa ob
         have vn := ls
         cases an9
         replace ls := cl_ HB ls
         replace oa := eq_true oa
         replace ob := eq_true ob
         refine start_ (n := 30) (S := fun w' => w'.cell? ⟨pb, 0, none⟩ = some (.slice (some vm) ab.length ae) ∧ w'.cell? ⟨pb, 1, none⟩ = some (.slice ah aa.length ag) ∧ w'.cell? (vm.add (bl).toNat) = some (.int .i64 (rd ab bl))) (ds := []) (tl_ 30 0) (g1_) rfl (g1_) ⟨(blk_cell d3.out 0).trans rfl, (blk_cell d3.out 1).trans rfl, ((cl_ HB vn).trans rfl)⟩ (fun hHeld => ?_); refine with_tabW spec_BookOk.tab6 spec_BookOk.bits6 (fun HT_ HW_ => ?_)
         generalize wr.drew = rr at d3 HB ls hHeld ⊢
         refine pw_ 0 26 (tl_ 30 1) rfl rfl ?_
         refine pw_ 2 28 (tl_ 30 5) rfl rfl ?_
         refine tk1_ 1 27 (tl_ 30 7) rfl rfl hHeld ?_
         refine pw_ 3 29 (tl_ 30 15) rfl rfl ?_
         refine tk1_ 4 30 (tl_ 30 31) rfl rfl hHeld ?_
         refine one_ (i := 5) (N := some 31) (tl_ 30 63) rfl rfl (one_of HT_.out (g1_)) (by decide) (fun K hK => ?_)
         refine goes_ Try.func65 (g1_) rfl #[.int .i64 (rd ab bl), .int .i64 0, .int .i64 20] (by rfl) rfl rfl (g3_) ?_
         with_reducible refine (spec_l1In.calls (rd ab bl) 0 20 false _ A13.out).mono ?_
         rintro e w' ⟨rfl, ⟨nd, rfl⟩⟩
         refine ⟨_, rfl, ?_⟩
         refine hK.out _ _ ⟨(blk_cell d3.out 0).trans rfl, (blk_cell d3.out 1).trans rfl, ((cl_ HB vn).trans rfl)⟩ (fun hHeld => ?_)
         clear hK K
         refine nm_ ?_
         refine pw_ 6 32 (tl_ 30 127) rfl rfl ?_
         refine pw_ 7 33 (tl_ 30 255) rfl rfl ?_
         refine pu_ 8 34 (tl_ 30 511) rfl rfl ?_
         refine pu_ 9 35 (tl_ 30 1023) rfl rfl ?_
         refine pu_ 10 36 (tl_ 30 2047) rfl rfl ?_
         refine pu_ 11 37 (tl_ 30 4095) rfl rfl ?_
         refine pu_ 12 38 (tl_ 30 8191) rfl rfl ?_
         refine pu_ 13 39 (tl_ 30 16383) rfl rfl ?_
         refine pu_ 14 40 (tl_ 30 32767) rfl rfl ?_
         refine pu_ 15 41 (tl_ 30 65535) rfl rfl ?_
         refine pu_ 16 42 (tl_ 30 131071) rfl rfl ?_
         refine pu_ 17 43 (tl_ 30 262143) rfl rfl ?_
         refine pw_ 18 44 (tl_ 30 524287) rfl rfl ?_
         refine pw_ 19 45 (tl_ 30 1048575) rfl rfl ?_
         refine pu_ 20 46 (tl_ 30 2097151) rfl rfl ?_
         refine pu_ 21 47 (tl_ 30 4194303) rfl rfl ?_
         refine pu_ 22 48 (tl_ 30 8388607) rfl rfl ?_
         refine pu_ 23 49 (tl_ 30 16777215) rfl rfl ?_
         refine pu_ 24 50 (tl_ 30 33554431) rfl rfl ?_
         refine pu_ 25 51 (tl_ 30 67108863) rfl rfl ?_
         refine pu_ 26 52 (tl_ 30 134217727) rfl rfl ?_
         refine pu_ 27 53 (tl_ 30 268435455) rfl rfl ?_
         refine pu_ 28 54 (tl_ 30 536870911) rfl rfl ?_
         refine pw_ 29 55 (tl_ 30 1073741823) rfl rfl ?_
         refine done_ (done_of HT_.out (g1_)) ?_
         try go_wp2
         go_meet
         case rel => exact ⟨_, (true), (g2_), H', ⟨g30_⟩, ⟨uf0_ d3⟩, ⟨l5⟩⟩
       case rest =>
        clear bw3
        (try clear c1); (try clear c2); (try clear p2); (try clear q2); (try clear hx2); (try clear c6); (try clear d2); (try clear f2); (try clear cb); (try clear ed); (try clear o3); (try clear bw4); (try clear bw5); (try clear ep); (try clear ls); (try clear pc); (try clear oa); (try clear tm); (try clear ob); try clear tn
        obtain ⟨kq, be5, rfl, HA, HJ9, d3, HB⟩ := hcut
        cases kq with
        | zero => exact absurd HA.out (by simp [spec_BookOk.j2])
        | succ kj9 =>
         have H := HA.out
         clear HA
         simp only [spec_BookOk.j2] at H
         by_cases jq : be5 = true
         ·subst jq
          replace H := ifp_ H
          obtain rfl := Option.some.inj H
          go_wp2
          go_ret
          exact ⟨g4_, l5⟩
         ·replace jq := Bool.eq_false_iff.mpr jq
          subst jq
          replace H := ifn_ H
          have H' := Aside0.mk H
          clear H
          go_wp2
          go_loopg [4] kj9 (fun kq v4 w' => ∃ (mf : Int), v4 = .int .i64 mf ∧ Aside0 (spec_BookOk.l1 kq bl mf ab aa = some r) ∧ Aside0 (kq ≤ kj9) ∧ Aside0 (w'.heap[pb]? = some (.cells #[(.slice af ab.length ae), (.slice ah aa.length ag)] 25 (0, 0))) ∧ Aside0 (Below w.heap.size w w'))
          case atStart => exact ⟨(0), (g2_), H', ⟨Nat.le_refl _⟩, ⟨uf0_ d3⟩, ⟨l5⟩⟩
          case round =>
           clear H'
           (try clear c1); (try clear c2); (try clear p2); (try clear q2); (try clear hx2); (try clear c6); (try clear d2); (try clear f2); (try clear cb); (try clear ed); (try clear o3); (try clear bw4); (try clear bw5); (try clear ep); (try clear jq); (try clear ls); (try clear pc); (try clear p2); (try clear oa); (try clear tm); (try clear q2); (try clear ob); try clear tn
           obtain ⟨mf, rfl, HA, HK4, d3, HB⟩ := hrel
           cases gk with
           | zero => exact absurd HA.out (by simp [spec_BookOk.l1])
           | succ k4 =>
            have H := HA.out
            clear HA
            simp only [spec_BookOk.l1] at H
            obtain ⟨jc, H⟩ := pos_ H
            have be8 := decide_eq_true jc
            clear jc
            obtain ⟨ff, H⟩ := pos_ H
            have zc := decide_eq_true ff
            clear ff
            by_cases gw : mf < ((rd_L1 aa bl).length : Int)
            ·rw [if_pos gw] at H
             have xw := decide_eq_true gw
             clear gw
             obtain ⟨jn, H⟩ := pos_ H
             have ad1 := decide_eq_true jn
             clear jn
             obtain ⟨bw2, pd, H⟩ := bind_ H
             by_cases ec : bw2 = true
             ·subst ec
              replace H := ifp_ H
              have H' := Aside0.mk H
              clear H
              obtain ⟨fr6, fr7, fr8, fr9⟩ := blk2_ d3
              have qf : 0 ≤ (bl : Int) := of_decide_eq_true (g0_)
              have qg : bl < (aa.length : Int) := of_decide_eq_true (g0_)
              obtain ⟨be9, cw7, cw8, ao4, r4, vp, vq⟩ := at_L1 bz.out bl qf qg
              cases ao4
              replace r4 := cl_ HB r4
              have cw9 := Aside0.mk vq
              have cx0 := Aside0.mk vp
              clear vq vp
              replace qf := eq_true qf
              replace qg := eq_true qg
              have zd : 0 ≤ (bl : Int) := of_decide_eq_true (g0_)
              have ze : bl < (aa.length : Int) := of_decide_eq_true (g0_)
              obtain ⟨bx3, eg5, eg6, bx4, zf, ao5, ao6⟩ := at_L1 bz.out bl zd ze
              obtain rfl : be9 = bx3 := (by injection bx4)
              replace zf := cl_ HB zf
              have bx5 := Aside0.mk ao6
              have eg7 := Aside0.mk ao5
              clear ao6 ao5
              replace zd := eq_true zd
              replace ze := eq_true ze
              have ea_ := Option.some.inj (r4.symm.trans zf)
              injection ea_ with ea_ en_ ec_
              subst ea_
              subst ec_
              clear en_
              have zg : 0 ≤ (mf : Int) := of_decide_eq_true (g0_)
              have zh : mf < ((rd_L1 aa bl).length : Int) := of_decide_eq_true (g0_)
              obtain ⟨eg8, bx6, ao7⟩ := Kd.at_int bx5.out mf zg zh
              cases bx6
              replace ao7 := cl_ HB ao7
              replace zg := eq_true zg
              replace zh := eq_true zh
              go_wp2_with (first | ((with_reducible refine gate_callee (f := 65) rfl ?_); refine goesL_ (some 74) rfl rfl Try.func65 k_ rfl #[.int .i64 (rd (rd_L1 aa bl) mf), .int .i64 0, .int .i64 9] rfl (g3_) ?_; (with_reducible refine (spec_l1In.calls (rd (rd_L1 aa bl) mf) 0 9 true _ pd.out).mono ?_); rintro e w' ⟨rfl, ⟨nd, rfl⟩⟩; refine ⟨_, rfl, ?_⟩))
              go_roundg k4
              case measure => have := HJ1.out; have := HK2.out; have := HJ9.out; have := HK4.out; omega
              case rel => exact ⟨(wrap64 (mf + 1)), (g2_), H', ⟨by have := HJ1.out; have := HK2.out; have := HJ9.out; have := HK4.out; omega⟩, ⟨uf0_ d3⟩, ⟨l5⟩⟩
             ·replace ec := Bool.eq_false_iff.mpr ec
              subst ec
              replace H := ifn_ H
              obtain rfl := Option.some.inj H
              obtain ⟨eg9, eh0, eh1, eh2⟩ := blk2_ d3
              have qf : 0 ≤ (bl : Int) := of_decide_eq_true (g0_)
              have qg : bl < (aa.length : Int) := of_decide_eq_true (g0_)
              obtain ⟨be9, cw7, cw8, ao4, r4, vp, vq⟩ := at_L1 bz.out bl qf qg
              cases ao4
              replace r4 := cl_ HB r4
              have cw9 := Aside0.mk vq
              have cx0 := Aside0.mk vp
              clear vq vp
              replace qf := eq_true qf
              replace qg := eq_true qg
              have zd : 0 ≤ (bl : Int) := of_decide_eq_true (g0_)
              have ze : bl < (aa.length : Int) := of_decide_eq_true (g0_)
              obtain ⟨bx3, eg5, eg6, bx4, zf, ao5, ao6⟩ := at_L1 bz.out bl zd ze
              obtain rfl : be9 = bx3 := (by injection bx4)
              replace zf := cl_ HB zf
              have bx5 := Aside0.mk ao6
              have eg7 := Aside0.mk ao5
              clear ao6 ao5
              replace zd := eq_true zd
              replace ze := eq_true ze
              have ea_ := Option.some.inj (r4.symm.trans zf)
              injection ea_ with ea_ en_ ec_
              subst ea_
              subst ec_
              clear en_
              have zg : 0 ≤ (mf : Int) := of_decide_eq_true (g0_)
              have zh : mf < ((rd_L1 aa bl).length : Int) := of_decide_eq_true (g0_)
              obtain ⟨eg8, bx6, ao7⟩ := Kd.at_int bx5.out mf zg zh
              cases bx6
              replace ao7 := cl_ HB ao7
              replace zg := eq_true zg
              replace zh := eq_true zh
              go_wp2_with (first | ((with_reducible refine gate_callee (f := 65) rfl ?_); refine goesL_ (some 74) rfl rfl Try.func65 k_ rfl #[.int .i64 (rd (rd_L1 aa bl) mf), .int .i64 0, .int .i64 9] rfl (g3_) ?_; (with_reducible refine (spec_l1In.calls (rd (rd_L1 aa bl) mf) 0 9 false _ pd.out).mono ?_); rintro e w' ⟨rfl, ⟨nd, rfl⟩⟩; refine ⟨_, rfl, ?_⟩))
              go_ret
              exact ⟨g4_, l5⟩
            ·rw [if_neg gw] at H
             have xw := decide_eq_false gw
             clear gw
             have H' := Aside0.mk H
             clear H
             obtain ⟨tp, tq, tr, ts⟩ := blk2_ d3
             have qf : 0 ≤ (bl : Int) := of_decide_eq_true (g0_)
             have qg : bl < (aa.length : Int) := of_decide_eq_true (g0_)
             obtain ⟨be9, cw7, cw8, ao4, r4, vp, vq⟩ := at_L1 bz.out bl qf qg
             cases ao4
             replace r4 := cl_ HB r4
             have cw9 := Aside0.mk vq
             have cx0 := Aside0.mk vp
             clear vq vp
             replace qf := eq_true qf
             replace qg := eq_true qg
             go_wp2
             go_roundg k4
             case measure => have := HJ1.out; have := HK2.out; have := HJ9.out; have := HK4.out; omega
             case rel => exact ⟨(wrap64 (bl + 1)), (g2_), H', ⟨by have := HJ1.out; have := HK2.out; have := HJ9.out; have := HK4.out; omega⟩, ⟨uf0_ d3⟩, ⟨l5⟩⟩
      ·rw [if_neg c9] at H
       have p7 := decide_eq_false c9
       clear c9
       obtain rfl := Option.some.inj H
       obtain ⟨cx1, cx2, cx3, cx4⟩ := blk2_ d3
       go_wp2
       go_ret
       exact ⟨g4_, l5⟩
end Go.Proofs.Ytfooakkhkehpiaa.PU
