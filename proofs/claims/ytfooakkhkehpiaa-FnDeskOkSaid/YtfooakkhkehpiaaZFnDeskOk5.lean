/- FnDeskOk: for every input the law holds. No condition. -/
import Derived.Test.YtfooakkhkehpiaaZFnDeskOk1
import Derived.Test.YtfooakkhkehpiaaZFnDeskOk2
import Derived.Test.YtfooakkhkehpiaaZFnDeskOk3
import Derived.Test.YtfooakkhkehpiaaZFnDeskOk4
namespace Go.Proofs.Ytfooakkhkehpiaa.PU
open Go.RowKit Go.Proofs.YtfooakkhkehpiaaW.PrintWords Go.Proofs.YtfooakkhkehpiaaW.PrintLast Go.Proofs.YtfooakkhkehpiaaW.PrintMore Go.Proofs.Ytfooakkhkehpiaa.Qd
attribute [local go_sem] max2_int min2_int max_two min_two max_three min_three max_four min_four
set_option linter.unusedVariables false
set_option linter.unusedSimpArgs false
mutual
def spec_l20Deed.j0 : Nat → List Int → Int → Int → Int → Int → Int → Option (Int × Int × Int × Int × Int)
 | 0, _, _, _, _, _, _ => none
 | k + 1, et, gl, az4, az5, az6, az7 => (spec_l20Rd_odd.f k et gl 40).bind fun bt381 => (if bt381.1 = true then ((spec_l20Rd_pick.f k et bt381.2 120).bind fun bt383 => (spec_l20Deed.j1 k et bt383.2 az4 az5 az6 (wrap64 ((wrap64 (az7 + bt383.1)) - 10)))) else (spec_l20Deed.j1 k et bt381.2 az4 az5 az6 az7))
def spec_l20Deed.j1 : Nat → List Int → Int → Int → Int → Int → Int → Option (Int × Int × Int × Int × Int)
 | 0, _, _, _, _, _, _ => none
 | k + 1, et, gl, az4, az5, az6, az7 => (spec_l20Rd_odd.f k et gl 40).bind fun bt385 => (if bt385.1 = true then ((spec_l20Rd_pick.f k et bt385.2 7).bind fun bt387 => (some (az4, wrap64 ((wrap64 (az5 + bt387.1)) - 2), az6, az7, bt387.2))) else (some (az4, az5, az6, az7, bt385.2)))
end
def spec_l20Deed.f (k : Nat) (ac : List Int) (bz : Int) (ce : List Int) (cr : List (List Int)) (eo : List (S25)) : Option (Int × Int × Int × Int × Int) := (some (([0, 0, 1, 1, 1, 1, 2, 3, 4] : List Int) : List Int)).bind fun ap => ((spec_l20Rd_pick.f k ac bz 9).bind fun bt365 => (if 0 ≤ bt365.1 then (if bt365.1 < (ap.length : Int) then ((spec_l20Rd_pick.f k ac bt365.2 60).bind fun bt368 => (if (wrap64 ((rd ap bt365.1) + (wrap64 ((wrap64 (Int.tdiv bt368.1 59)) * 5)))) = 0 then ((spec_l20Rd_pick.f k ac bt368.2 (mx (ce.length : Int) 1)).bind fun bt371 => ((spec_l20Rd_pick.f k ac bt371.2 21).bind fun bt373 => (spec_l20Deed.j0 k ac bt373.2 (wrap64 ((rd ap bt365.1) + (wrap64 ((wrap64 (Int.tdiv bt368.1 59)) * 5)))) bt371.1 0 bt373.1))) else (if (wrap64 ((rd ap bt365.1) + (wrap64 ((wrap64 (Int.tdiv bt368.1 59)) * 5)))) = 1 then ((spec_l20Rd_pick.f k ac bt368.2 (mx (ce.length : Int) 1)).bind fun bt375 => ((spec_l20Rd_pick.f k ac bt375.2 (mx (ce.length : Int) 1)).bind fun bt377 => ((spec_l20Rd_pick.f k ac bt377.2 10).bind fun bt379 => (spec_l20Deed.j0 k ac bt379.2 (wrap64 ((rd ap bt365.1) + (wrap64 ((wrap64 (Int.tdiv bt368.1 59)) * 5)))) bt375.1 bt377.1 bt379.1)))) else (spec_l20Deed.j0 k ac bt368.2 (wrap64 ((rd ap bt365.1) + (wrap64 ((wrap64 (Int.tdiv bt368.1 59)) * 5)))) 0 0 0)))) else (none)) else (none)))
theorem spec_l20Deed.mq {p : Prop} (h : p := by
 repeat' first
 | (with_reducible exact ih0 _ _ _ _ _ _)
 | (with_reducible exact ih1 _ _ _ _ _ _)
 | (with_reducible exact spec_l20Rd_odd.mono _ _ _ _)
 | (with_reducible exact spec_l20Rd_pick.mono _ _ _ _)
 | (with_reducible exact LeO.refl _)
 | (with_reducible exact LeO.none _)
 | (with_reducible refine LeO.ite ?_ ?_)
 | (with_reducible refine LeO.bind ?_ (fun _ => ?_))
 | exact ih0 _ _ _ _ _ _
 | exact ih1 _ _ _ _ _ _
 | exact spec_l20Rd_odd.mono _ _ _ _
 | exact spec_l20Rd_pick.mono _ _ _ _
 | exact LeO.none _
 | refine LeO.ite ?_ ?_
 | refine LeO.bind ?_ (fun _ => ?_)) : p := h
theorem spec_l20Deed.mono_l : ∀ k, (∀ y0 y1 y2 y3 y4 y5, LeO (spec_l20Deed.j0 k y0 y1 y2 y3 y4 y5) (spec_l20Deed.j0 (k + 1) y0 y1 y2 y3 y4 y5)) ∧ (∀ y0 y1 y2 y3 y4 y5, LeO (spec_l20Deed.j1 k y0 y1 y2 y3 y4 y5) (spec_l20Deed.j1 (k + 1) y0 y1 y2 y3 y4 y5))
 | 0 => ⟨fun _ _ _ _ _ _ r h => by simp [spec_l20Deed.j0] at h, fun _ _ _ _ _ _ r h => by simp [spec_l20Deed.j1] at h⟩
 | k + 1 => by
  obtain ⟨ih0, ih1⟩ := spec_l20Deed.mono_l k
  refine ⟨?_, ?_⟩
  ·intro y0 y1 y2 y3 y4 y5
   unfold spec_l20Deed.j0
   exact spec_l20Deed.mq
  ·intro y0 y1 y2 y3 y4 y5
   unfold spec_l20Deed.j1
   exact spec_l20Deed.mq
theorem spec_l20Deed.mono : ∀ a0 a1 a2 a3 a4 k, LeO (spec_l20Deed.f k a0 a1 a2 a3 a4) (spec_l20Deed.f (k + 1) a0 a1 a2 a3 a4) := by
 intro a0 a1 a2 a3 a4 k
 obtain ⟨ih0, ih1⟩ := spec_l20Deed.mono_l k
 unfold spec_l20Deed.f
 exact spec_l20Deed.mq
def spec_l20Deed.T2 : Bool × List (List Nat × List Nat) := (true, [([], []), ([], []), ([1], [1]), ([0, 2], [0, 2]), ([3], [3]), ([], []), ([5, 2], [5]), ([6], [6]), ([7], [7]), ([4, 8], [4, 8]), ([9], [9]), ([], []), ([11, 10, 6, 0, 1, 2, 3, 4, 5, 6, 7, 8, 9, 10, 11], [10, 11])])
def spec_l20Deed.B2 : List Nat := [0, 0, 2, 7, 15, 0, 38, 102, 230, 511, 1023, 0, 4095]
theorem spec_l20Deed.tab2 : rtab .any (opsOf Try.f103 2) = spec_l20Deed.T2 := by kernel_rfl
theorem spec_l20Deed.bits2 : waitsOk spec_l20Deed.T2.2 spec_l20Deed.B2 = true := by kernel_rfl
def spec_l20Deed.T12 : Bool × List (List Nat × List Nat) := (true, [([], []), ([0], [0]), ([], []), ([2], [2]), ([1, 3], [1, 3]), ([4], [4]), ([0, 1, 2, 3, 4, 5], []), ([6, 5, 3, 0, 1, 2, 3, 4, 5], [5, 6])])
def spec_l20Deed.B12 : List Nat := [0, 1, 0, 4, 15, 31, 63, 127]
theorem spec_l20Deed.tab12 : rtab .any (opsOf Try.f103 12) = spec_l20Deed.T12 := by kernel_rfl
theorem spec_l20Deed.bits12 : waitsOk spec_l20Deed.T12.2 spec_l20Deed.B12 = true := by kernel_rfl
def spec_l20Deed.T14 : Bool × List (List Nat × List Nat) := (true, [([], []), ([0], [0]), ([], []), ([2], [2]), ([1, 3], [1, 3]), ([4], [4]), ([0, 1, 2, 3, 4, 5], []), ([6, 5, 3, 0, 1, 2, 3, 4, 5], [5, 6])])
def spec_l20Deed.B14 : List Nat := [0, 1, 0, 4, 15, 31, 63, 127]
theorem spec_l20Deed.tab14 : rtab .any (opsOf Try.f103 14) = spec_l20Deed.T14 := by kernel_rfl
theorem spec_l20Deed.bits14 : waitsOk spec_l20Deed.T14.2 spec_l20Deed.B14 = true := by kernel_rfl
theorem bh {p : Prop} (h : p := by repeat (first | (with_reducible first | exact HI0.out | apply IsS112.alloc | apply IsS112.drewN | apply IsS112.drew | apply IsS112.set_1 | refine IsS112.far ?_ dp9.out _ | refine IsS112.far ?_ cl2.out _ | refine IsS112.far ?_ fd.out _) | exact HI0.out)) : p := h
theorem ci {p : Prop} (h : p := by repeat (first | (with_reducible first | exact HK.out | apply KeepBut.set_ | apply keep_drewN | apply keep_drew | apply keep_alloc | refine keep_far ?_ fj3.out _ | refine keep_far ?_ fj4.out _ | refine keep_far ?_ f4.out _) | exact HK.out)) : p := h
theorem ct {p : Prop} (h : p := by repeat (first | (with_reducible first | exact HB.out | apply below_alloc | apply pw_below_drewN | apply below_drew1 | refine below_set ?_ (IsS112.ge HI0.out) | refine below_set ?_ fj5.out | refine below_set ?_ fj6.out | refine below_set ?_ f5.out) | exact HB.out)) : p := h
set_option maxHeartbeats 8000000 in
set_option maxRecDepth 100000 in
theorem spec_l20Deed.calls (k : Nat) (g : Nat) (ac : List Int) (bz : Int) (d8 : Option Addr) (d9 : Nat) (ce : List Int) (ea : Option Addr) (eb : Nat) (cr : List (List Int)) (e4 : Option Addr) (e5 : Nat) (eo : List (S25)) (r1 : Int) (r2 : Int) (r3 : Int) (r4 : Int) (r5 : Int) (w0 w : World) (hI : IsS112 w0 w g ac bz) (hB : Below w0.heap.size w0 w) (aw1 : Kd.C (Kd.int .i64) w d8 ce.length ce) (aw2 : ce.length ≤ d9) (hf1_0 : ∀ ad, d8 = some ad → 0 < ce.length → ad.block ≠ g) (aw3 : ∀ W_, KeepBut w W_ g none → Kd.C (Kd.slice 3 (Kd.int .i64)) W_ ea cr.length cr) (aw4 : cr.length ≤ eb) (dq0 : ∀ W_, KeepBut w W_ g none → Kd.C k25 W_ e4 eo.length eo) (dq1 : eo.length ≤ e5) (h : spec_l20Deed.f k ac bz ce cr eo = some (r1, r2, r3, r4, r5)) :
  Calls Try.prog 103 #[.pointer (some ⟨g, 0, none⟩), .agg #[.slice d8 ce.length d9, .slice ea cr.length eb, .slice e4 eo.length e5]] w fun e w' => e = .returned (.agg #[.int .i64 r1, .int .i64 r2, .int .i64 r3, .int .i64 r4]) ∧ IsS112 w0 w' g ac r5 ∧ Below w0.heap.size w0 w' ∧ KeepBut w w' g none := by
 have hu28 := Try.underlying28
 have hu69 := Try.underlying69
 have cg6 := Aside0.mk aw1
 have ep1 := Aside0.mk aw2
 clear aw1 aw2
 have cg7 := Aside0.mk aw3
 have ep2 := Aside0.mk aw4
 clear aw3 aw4
 have he5 := Aside0.mk dq0
 have he6 := Aside0.mk dq1
 clear dq0 dq1
 have HI0 := Aside0.mk hI
 have HK := Aside0.mk (KeepBut.refl w g none)
 have HL := Aside0.mk hB.size
 clear hI
 have HW0 := Aside0.mk hB.size
 have HB := Aside0.mk hB
 clear hB
 have H : ((some (([0, 0, 1, 1, 1, 1, 2, 3, 4] : List Int) : List Int)).bind fun ap => ((spec_l20Rd_pick.f k ac bz 9).bind fun bt365 => (if 0 ≤ bt365.1 then (if bt365.1 < (ap.length : Int) then ((spec_l20Rd_pick.f k ac bt365.2 60).bind fun bt368 => (if (wrap64 ((rd ap bt365.1) + (wrap64 ((wrap64 (Int.tdiv bt368.1 59)) * 5)))) = 0 then ((spec_l20Rd_pick.f k ac bt368.2 (mx (ce.length : Int) 1)).bind fun bt371 => ((spec_l20Rd_pick.f k ac bt371.2 21).bind fun bt373 => (spec_l20Deed.j0 k ac bt373.2 (wrap64 ((rd ap bt365.1) + (wrap64 ((wrap64 (Int.tdiv bt368.1 59)) * 5)))) bt371.1 0 bt373.1))) else (if (wrap64 ((rd ap bt365.1) + (wrap64 ((wrap64 (Int.tdiv bt368.1 59)) * 5)))) = 1 then ((spec_l20Rd_pick.f k ac bt368.2 (mx (ce.length : Int) 1)).bind fun bt375 => ((spec_l20Rd_pick.f k ac bt375.2 (mx (ce.length : Int) 1)).bind fun bt377 => ((spec_l20Rd_pick.f k ac bt377.2 10).bind fun bt379 => (spec_l20Deed.j0 k ac bt379.2 (wrap64 ((rd ap bt365.1) + (wrap64 ((wrap64 (Int.tdiv bt368.1 59)) * 5)))) bt375.1 bt377.1 bt379.1)))) else (spec_l20Deed.j0 k ac bt368.2 (wrap64 ((rd ap bt365.1) + (wrap64 ((wrap64 (Int.tdiv bt368.1 59)) * 5)))) 0 0 0)))) else (none)) else (none)))) = some (r1, r2, r3, r4, r5) := h
 clear h
 obtain ⟨ji3, hji3⟩ : ∃ j_ : Int, (mx (ce.length : Int) 1) = j_ := ⟨_, rfl⟩
 replace H : ((some (([0, 0, 1, 1, 1, 1, 2, 3, 4] : List Int) : List Int)).bind fun ap => ((spec_l20Rd_pick.f k ac bz 9).bind fun bt365 => (if 0 ≤ bt365.1 then (if bt365.1 < (ap.length : Int) then ((spec_l20Rd_pick.f k ac bt365.2 60).bind fun bt368 => (if (wrap64 ((rd ap bt365.1) + (wrap64 ((wrap64 (Int.tdiv bt368.1 59)) * 5)))) = 0 then ((spec_l20Rd_pick.f k ac bt368.2 (ji3)).bind fun bt371 => ((spec_l20Rd_pick.f k ac bt371.2 21).bind fun bt373 => (spec_l20Deed.j0 k ac bt373.2 (wrap64 ((rd ap bt365.1) + (wrap64 ((wrap64 (Int.tdiv bt368.1 59)) * 5)))) bt371.1 0 bt373.1))) else (if (wrap64 ((rd ap bt365.1) + (wrap64 ((wrap64 (Int.tdiv bt368.1 59)) * 5)))) = 1 then ((spec_l20Rd_pick.f k ac bt368.2 (ji3)).bind fun bt375 => ((spec_l20Rd_pick.f k ac bt375.2 (ji3)).bind fun bt377 => ((spec_l20Rd_pick.f k ac bt377.2 10).bind fun bt379 => (spec_l20Deed.j0 k ac bt379.2 (wrap64 ((rd ap bt365.1) + (wrap64 ((wrap64 (Int.tdiv bt368.1 59)) * 5)))) bt375.1 bt377.1 bt379.1)))) else (spec_l20Deed.j0 k ac bt368.2 (wrap64 ((rd ap bt365.1) + (wrap64 ((wrap64 (Int.tdiv bt368.1 59)) * 5)))) 0 0 0)))) else (none)) else (none)))) = some (r1, r2, r3, r4, r5) := by first | (rw [hji3] at H; exact H) | (simp only [hji3] at H ⊢; exact H)
 (try (have hji3l : 1 ≤ ji3 := by (rw [← hji3]; unfold mx; (repeat' split) <;> omega)))
 (try (have hji3m : 0 ≤ ji3 := by omega))
 have hji3_ : (if (ce.length : Int) < 1 then 1 else (ce.length : Int)) = ji3 := hji3
 obtain ⟨ap, hy362⟩ : ∃ y_ : List Int, y_ = (([0, 0, 1, 1, 1, 1, 2, 3, 4] : List Int)) := ⟨_, rfl⟩
 replace H : ((spec_l20Rd_pick.f k ac bz 9).bind fun bt365 => (if 0 ≤ bt365.1 then (if bt365.1 < (ap.length : Int) then ((spec_l20Rd_pick.f k ac bt365.2 60).bind fun bt368 => (if (wrap64 ((rd ap bt365.1) + (wrap64 ((wrap64 (Int.tdiv bt368.1 59)) * 5)))) = 0 then ((spec_l20Rd_pick.f k ac bt368.2 (ji3)).bind fun bt371 => ((spec_l20Rd_pick.f k ac bt371.2 21).bind fun bt373 => (spec_l20Deed.j0 k ac bt373.2 (wrap64 ((rd ap bt365.1) + (wrap64 ((wrap64 (Int.tdiv bt368.1 59)) * 5)))) bt371.1 0 bt373.1))) else (if (wrap64 ((rd ap bt365.1) + (wrap64 ((wrap64 (Int.tdiv bt368.1 59)) * 5)))) = 1 then ((spec_l20Rd_pick.f k ac bt368.2 (ji3)).bind fun bt375 => ((spec_l20Rd_pick.f k ac bt375.2 (ji3)).bind fun bt377 => ((spec_l20Rd_pick.f k ac bt377.2 10).bind fun bt379 => (spec_l20Deed.j0 k ac bt379.2 (wrap64 ((rd ap bt365.1) + (wrap64 ((wrap64 (Int.tdiv bt368.1 59)) * 5)))) bt375.1 bt377.1 bt379.1)))) else (spec_l20Deed.j0 k ac bt368.2 (wrap64 ((rd ap bt365.1) + (wrap64 ((wrap64 (Int.tdiv bt368.1 59)) * 5)))) 0 0 0)))) else (none)) else (none))) = some (r1, r2, r3, r4, r5) := by first | (rw [hy362]; with_reducible exact H) | (have H2_ := (Option.bind_some _ _).symm.trans H; rw [hy362]; with_reducible exact H2_) | (have H2_ := (Option.bind_some _ _).symm.trans H; with_reducible exact H2_) | with_reducible exact H | (rw [hy362]; exact H) | exact H
 have qc := Aside0.mk hy362
 clear hy362
 replace H := Option.bind_eq_some_iff.mp H
 obtain ⟨⟨b3, gm⟩, m7, H⟩ := H
 try dsimp only at H
 have A4 := Aside0.mk m7
 clear m7
 obtain ⟨c5, H⟩ := pos_ H
 have gr := decide_eq_true c5
 clear c5
 obtain ⟨c6, H⟩ := pos_ H
 have k9 := decide_eq_true c6
 clear c6
 replace H := Option.bind_eq_some_iff.mp H
 obtain ⟨⟨cx, hl⟩, A70, H⟩ := H
 try dsimp only at H
 have A7 := Aside0.mk A70
 clear A70
 have HC8 := Aside0.mk H
 clear H
 go_enter Try.func103, Try.ntmps103
 try go_wp2_with (first | ((with_reducible refine gate_dst (N := 3) rfl ?_); refine bx_ (N := 3) #[.slice d8 ce.length d9, .slice ea cr.length eb, .slice e4 eo.length e5] 28 ?_; intro bt hg w9 hbox hb; replace HB := Aside0.mk (below_step (ct) hb); have av := Aside0.mk (hbox); have fj3 := Aside0.mk ((g9_ : w.heap.size ≤ bt)); have fj5 := Aside0.mk ((Nat.le_trans HW0.out (g9_ : w.heap.size ≤ bt) : w0.heap.size ≤ bt)); replace HK := Aside0.mk (KeepBut.trans (ci) (KeepBut.of_below hb g none) (.inl rfl)); have dp9 := Aside0.mk ((by rw [hg]; exact Nat.ne_of_lt (IsS112.lt (show IsS112 w0 _ g ac bz from bh)) : g ≠ bt)); have kv := Aside0.mk ((by rw [hg]; exact Nat.ne_of_gt (IsS112.lt (show IsS112 w0 _ g ac bz from bh)) : bt ≠ g)); replace HI0 := Aside0.mk (IsS112.below (bh) hb); clear hb hbox hg) | ((with_reducible refine gate_dst (N := 4) rfl ?_); refine bx_ (N := 4) #[.int .i64 0, .int .i64 0, .int .i64 0, .int .i64 0] 69 ?_; intro bp hg w10 hbox hb; replace HB := Aside0.mk (below_step (ct) hb); have ar := Aside0.mk (hbox); have fj4 := Aside0.mk ((g9_ : w.heap.size ≤ bp)); have fj6 := Aside0.mk ((Nat.le_trans HW0.out (g9_ : w.heap.size ≤ bp) : w0.heap.size ≤ bp)); replace HK := Aside0.mk (KeepBut.trans (ci) (KeepBut.of_below hb g none) (.inl rfl)); have cl3 := Aside0.mk ((g22_ : bt ≠ bp)); have cl4 := Aside0.mk ((g23_ : bp ≠ bt)); replace av := bb_ av hb; have cl2 := Aside0.mk ((by rw [hg]; exact Nat.ne_of_lt (IsS112.lt (show IsS112 w0 _ g ac bz from bh)) : g ≠ bp)); have kh := Aside0.mk ((by rw [hg]; exact Nat.ne_of_gt (IsS112.lt (show IsS112 w0 _ g ac bz from bh)) : bp ≠ g)); replace HI0 := Aside0.mk (IsS112.below (bh) hb); clear hb hbox hg; have ar0 := cl3.out; have ar1 := cl4.out; have bw4 := kv.out; have bw5 := dp9.out; obtain ⟨qq, qr, cs2, qs, qt, cs3⟩ := blk3_ av))
 have pi367 : (0 ≤ (b3 : Int)) = True := eq_true (of_decide_eq_true (g0_))
 have qi367 : (b3 < (ap.length : Int)) = True := eq_true (of_decide_eq_true (g0_))
 replace av := Aside0.mk (blk_drew av.out)
 replace ar := Aside0.mk (blk_drew ar.out)
 replace HI0 := Aside0.mk (IsS112.drew HI0.out)
 replace HK := Aside0.mk (keep_drew HK.out)
 replace HB := Aside0.mk (below_drew1 HB.out)
 refine start_ (n := 13) (S := fun w' => True) (ds := []) (tl_ 13 0) (g1_) rfl (g1_) trivial (fun hHeld => ?_); refine with_tabW spec_l20Deed.tab2 spec_l20Deed.bits2 (fun HT_ HW_ => ?_)
 generalize w10.drew = w14 at av ar HI0 HK HB hHeld ⊢
 refine pw_ 1 13 (tl_ 13 2) rfl rfl ?_
 refine pw_ 5 17 (tl_ 13 34) rfl rfl ?_
 refine join_ (σ := Value × Addr × Nat) 1 (tl_ 13 4095) (fun s_ => [(12, s_.1), (14, .int .i64 b3), (16, .int .i64 (rd ap b3)), (18, .int .i64 cx), (6, .pointer (some ⟨s_.2.2, 0, none⟩)), (15, .pointer (some (s_.2.1.add (b3).toNat))), (19, .int .i64 (wrap64 (Int.tdiv cx 59))), (20, .int .i64 (wrap64 ((wrap64 (Int.tdiv cx 59)) * 5))), (21, .int .i64 (wrap64 ((rd ap b3) + (wrap64 ((wrap64 (Int.tdiv cx 59)) * 5))))), (22, .agg #[.int .i64 (wrap64 ((rd ap b3) + (wrap64 ((wrap64 (Int.tdiv cx 59)) * 5)))), .int .i64 0, .int .i64 0, .int .i64 0])]) (fun s_ w' => (Kd.R (Kd.int .i64) 3 w' w.heap.size (fun _ => True) s_.1 ap) ∧ (∃ c_, (s_.1 : Value) = .slice (some s_.2.1) ap.length c_) ∧ (w'.heap[bt]? = some (.cells #[.slice d8 ce.length d9, .slice ea cr.length eb, .slice e4 eo.length e5] 28 (0, 0))) ∧ (w'.heap[bp]? = some (.cells #[.int .i64 0, .int .i64 0, .int .i64 0, .int .i64 0] 69 (0, 0))) ∧ (w'.heap[s_.2.2]? = some (.cells #[.int .i64 0, .int .i64 0, .int .i64 0, .int .i64 0] 69 (0, 0))) ∧ (w.heap.size ≤ s_.2.2) ∧ (w0.heap.size ≤ s_.2.2) ∧ (g ≠ s_.2.2) ∧ (s_.2.2 ≠ g) ∧ (bt ≠ s_.2.2) ∧ (s_.2.2 ≠ bt) ∧ (bp ≠ s_.2.2) ∧ (s_.2.2 ≠ bp) ∧ (IsS112 w0 w' g ac hl) ∧ (KeepBut w w' g none) ∧ (Below w0.heap.size w0 w')) ?_ ?_
 rotate_left
 ·intro hJ0_2_4_6_11
  refine join_ (σ := Value × Addr) 2 (tl_ 13 2047) (fun s_ => [(12, s_.1), (14, .int .i64 b3), (16, .int .i64 (rd ap b3)), (18, .int .i64 cx), (15, .pointer (some (s_.2.add (b3).toNat))), (19, .int .i64 (wrap64 (Int.tdiv cx 59))), (20, .int .i64 (wrap64 ((wrap64 (Int.tdiv cx 59)) * 5))), (21, .int .i64 (wrap64 ((rd ap b3) + (wrap64 ((wrap64 (Int.tdiv cx 59)) * 5))))), (22, .agg #[.int .i64 (wrap64 ((rd ap b3) + (wrap64 ((wrap64 (Int.tdiv cx 59)) * 5)))), .int .i64 0, .int .i64 0, .int .i64 0])]) (fun s_ w' => (Kd.R (Kd.int .i64) 3 w' w.heap.size (fun _ => True) s_.1 ap) ∧ (∃ c_, (s_.1 : Value) = .slice (some s_.2) ap.length c_) ∧ (w'.heap[bt]? = some (.cells #[.slice d8 ce.length d9, .slice ea cr.length eb, .slice e4 eo.length e5] 28 (0, 0))) ∧ (w'.heap[bp]? = some (.cells #[.int .i64 0, .int .i64 0, .int .i64 0, .int .i64 0] 69 (0, 0))) ∧ (IsS112 w0 w' g ac hl) ∧ (KeepBut w w' g none) ∧ (Below w0.heap.size w0 w')) ?_ ?_
  rotate_left
  ·intro hJ0_2_4_6
   refine join_ (σ := Value × Addr × Nat) 6 (tl_ 13 2111) (fun s_ => [(12, s_.1), (14, .int .i64 b3), (16, .int .i64 (rd ap b3)), (6, .pointer (some ⟨s_.2.2, 0, none⟩)), (15, .pointer (some (s_.2.1.add (b3).toNat)))]) (fun s_ w' => (Kd.R (Kd.int .i64) 3 w' w.heap.size (fun _ => True) s_.1 ap) ∧ (∃ c_, (s_.1 : Value) = .slice (some s_.2.1) ap.length c_) ∧ (w'.heap[bt]? = some (.cells #[.slice d8 ce.length d9, .slice ea cr.length eb, .slice e4 eo.length e5] 28 (0, 0))) ∧ (w'.heap[bp]? = some (.cells #[.int .i64 0, .int .i64 0, .int .i64 0, .int .i64 0] 69 (0, 0))) ∧ (w'.heap[s_.2.2]? = some (.cells #[.int .i64 0, .int .i64 0, .int .i64 0, .int .i64 0] 69 (0, 0))) ∧ (w.heap.size ≤ s_.2.2) ∧ (w0.heap.size ≤ s_.2.2) ∧ (g ≠ s_.2.2) ∧ (s_.2.2 ≠ g) ∧ (bt ≠ s_.2.2) ∧ (s_.2.2 ≠ bt) ∧ (bp ≠ s_.2.2) ∧ (s_.2.2 ≠ bp) ∧ (IsS112 w0 w' g ac gm) ∧ (KeepBut w w' g none) ∧ (Below w0.heap.size w0 w')) ?_ ?_
   rotate_left
   ·intro hJ0_2_4_11
    refine join_ (σ := Value × Addr × Nat) 4 (tl_ 13 2543) (fun s_ => [(12, s_.1), (14, .int .i64 b3), (18, .int .i64 cx), (6, .pointer (some ⟨s_.2.2, 0, none⟩)), (15, .pointer (some (s_.2.1.add (b3).toNat))), (19, .int .i64 (wrap64 (Int.tdiv cx 59))), (20, .int .i64 (wrap64 ((wrap64 (Int.tdiv cx 59)) * 5)))]) (fun s_ w' => (Kd.R (Kd.int .i64) 3 w' w.heap.size (fun _ => True) s_.1 ap) ∧ (∃ c_, (s_.1 : Value) = .slice (some s_.2.1) ap.length c_) ∧ (w'.heap[bt]? = some (.cells #[.slice d8 ce.length d9, .slice ea cr.length eb, .slice e4 eo.length e5] 28 (0, 0))) ∧ (w'.heap[bp]? = some (.cells #[.int .i64 0, .int .i64 0, .int .i64 0, .int .i64 0] 69 (0, 0))) ∧ (w'.heap[s_.2.2]? = some (.cells #[.int .i64 0, .int .i64 0, .int .i64 0, .int .i64 0] 69 (0, 0))) ∧ (w.heap.size ≤ s_.2.2) ∧ (w0.heap.size ≤ s_.2.2) ∧ (g ≠ s_.2.2) ∧ (s_.2.2 ≠ g) ∧ (bt ≠ s_.2.2) ∧ (s_.2.2 ≠ bt) ∧ (bp ≠ s_.2.2) ∧ (s_.2.2 ≠ bp) ∧ (IsS112 w0 w' g ac hl) ∧ (KeepBut w w' g none) ∧ (Below w0.heap.size w0 w')) ?_ ?_
    rotate_left
    ·intro hJ0_2_6_11
     refine join_ (σ := Value × Addr) 7 (tl_ 13 63) (fun s_ => [(12, s_.1), (14, .int .i64 b3), (16, .int .i64 (rd ap b3)), (15, .pointer (some (s_.2.add (b3).toNat)))]) (fun s_ w' => (Kd.R (Kd.int .i64) 3 w' w.heap.size (fun _ => True) s_.1 ap) ∧ (∃ c_, (s_.1 : Value) = .slice (some s_.2) ap.length c_) ∧ (w'.heap[bt]? = some (.cells #[.slice d8 ce.length d9, .slice ea cr.length eb, .slice e4 eo.length e5] 28 (0, 0))) ∧ (w'.heap[bp]? = some (.cells #[.int .i64 0, .int .i64 0, .int .i64 0, .int .i64 0] 69 (0, 0))) ∧ (IsS112 w0 w' g ac gm) ∧ (KeepBut w w' g none) ∧ (Below w0.heap.size w0 w')) ?_ ?_
     rotate_left
     ·intro hJ0_2_4
      refine join_ (σ := Value × Addr) 5 (tl_ 13 495) (fun s_ => [(12, s_.1), (14, .int .i64 b3), (18, .int .i64 cx), (15, .pointer (some (s_.2.add (b3).toNat))), (19, .int .i64 (wrap64 (Int.tdiv cx 59))), (20, .int .i64 (wrap64 ((wrap64 (Int.tdiv cx 59)) * 5)))]) (fun s_ w' => (Kd.R (Kd.int .i64) 3 w' w.heap.size (fun _ => True) s_.1 ap) ∧ (∃ c_, (s_.1 : Value) = .slice (some s_.2) ap.length c_) ∧ (w'.heap[bt]? = some (.cells #[.slice d8 ce.length d9, .slice ea cr.length eb, .slice e4 eo.length e5] 28 (0, 0))) ∧ (w'.heap[bp]? = some (.cells #[.int .i64 0, .int .i64 0, .int .i64 0, .int .i64 0] 69 (0, 0))) ∧ (IsS112 w0 w' g ac hl) ∧ (KeepBut w w' g none) ∧ (Below w0.heap.size w0 w')) ?_ ?_
      rotate_left
      ·intro hJ0_2_6
       refine join_ (σ := Value × Addr × Nat) 7 (tl_ 13 2095) (fun s_ => [(12, s_.1), (14, .int .i64 b3), (6, .pointer (some ⟨s_.2.2, 0, none⟩)), (15, .pointer (some (s_.2.1.add (b3).toNat)))]) (fun s_ w' => (Kd.R (Kd.int .i64) 3 w' w.heap.size (fun _ => True) s_.1 ap) ∧ (∃ c_, (s_.1 : Value) = .slice (some s_.2.1) ap.length c_) ∧ (w'.heap[bt]? = some (.cells #[.slice d8 ce.length d9, .slice ea cr.length eb, .slice e4 eo.length e5] 28 (0, 0))) ∧ (w'.heap[bp]? = some (.cells #[.int .i64 0, .int .i64 0, .int .i64 0, .int .i64 0] 69 (0, 0))) ∧ (w'.heap[s_.2.2]? = some (.cells #[.int .i64 0, .int .i64 0, .int .i64 0, .int .i64 0] 69 (0, 0))) ∧ (w.heap.size ≤ s_.2.2) ∧ (w0.heap.size ≤ s_.2.2) ∧ (g ≠ s_.2.2) ∧ (s_.2.2 ≠ g) ∧ (bt ≠ s_.2.2) ∧ (s_.2.2 ≠ bt) ∧ (bp ≠ s_.2.2) ∧ (s_.2.2 ≠ bp) ∧ (IsS112 w0 w' g ac gm) ∧ (KeepBut w w' g none) ∧ (Below w0.heap.size w0 w')) ?_ ?_
       rotate_left
       ·intro hJ0_2_11
        refine join_ (σ := Nat) 6 (tl_ 13 2534) (fun s_ => [(14, .int .i64 b3), (18, .int .i64 cx), (6, .pointer (some ⟨s_, 0, none⟩)), (19, .int .i64 (wrap64 (Int.tdiv cx 59))), (20, .int .i64 (wrap64 ((wrap64 (Int.tdiv cx 59)) * 5)))]) (fun s_ w' => (w'.heap[bt]? = some (.cells #[.slice d8 ce.length d9, .slice ea cr.length eb, .slice e4 eo.length e5] 28 (0, 0))) ∧ (w'.heap[bp]? = some (.cells #[.int .i64 0, .int .i64 0, .int .i64 0, .int .i64 0] 69 (0, 0))) ∧ (w'.heap[s_]? = some (.cells #[.int .i64 0, .int .i64 0, .int .i64 0, .int .i64 0] 69 (0, 0))) ∧ (w.heap.size ≤ s_) ∧ (w0.heap.size ≤ s_) ∧ (g ≠ s_) ∧ (s_ ≠ g) ∧ (bt ≠ s_) ∧ (s_ ≠ bt) ∧ (bp ≠ s_) ∧ (s_ ≠ bp) ∧ (IsS112 w0 w' g ac hl) ∧ (KeepBut w w' g none) ∧ (Below w0.heap.size w0 w')) ?_ ?_
        rotate_left
        ·intro hJ2_6_11
         refine join_ (σ := Value × Addr) 8 (tl_ 13 47) (fun s_ => [(12, s_.1), (14, .int .i64 b3), (15, .pointer (some (s_.2.add (b3).toNat)))]) (fun s_ w' => (Kd.R (Kd.int .i64) 3 w' w.heap.size (fun _ => True) s_.1 ap) ∧ (∃ c_, (s_.1 : Value) = .slice (some s_.2) ap.length c_) ∧ (w'.heap[bt]? = some (.cells #[.slice d8 ce.length d9, .slice ea cr.length eb, .slice e4 eo.length e5] 28 (0, 0))) ∧ (w'.heap[bp]? = some (.cells #[.int .i64 0, .int .i64 0, .int .i64 0, .int .i64 0] 69 (0, 0))) ∧ (IsS112 w0 w' g ac gm) ∧ (KeepBut w w' g none) ∧ (Below w0.heap.size w0 w')) ?_ ?_
         rotate_left
         ·intro hJ0_2
          refine join_ (σ := Value × Addr × Nat) 9 (tl_ 13 2083) (fun s_ => [(12, s_.1), (6, .pointer (some ⟨s_.2.2, 0, none⟩))]) (fun s_ w' => (Kd.R (Kd.int .i64) 3 w' w.heap.size (fun _ => True) s_.1 ap) ∧ (∃ c_, (s_.1 : Value) = .slice (some s_.2.1) ap.length c_) ∧ (w'.heap[bt]? = some (.cells #[.slice d8 ce.length d9, .slice ea cr.length eb, .slice e4 eo.length e5] 28 (0, 0))) ∧ (w'.heap[bp]? = some (.cells #[.int .i64 0, .int .i64 0, .int .i64 0, .int .i64 0] 69 (0, 0))) ∧ (w'.heap[s_.2.2]? = some (.cells #[.int .i64 0, .int .i64 0, .int .i64 0, .int .i64 0] 69 (0, 0))) ∧ (w.heap.size ≤ s_.2.2) ∧ (w0.heap.size ≤ s_.2.2) ∧ (g ≠ s_.2.2) ∧ (s_.2.2 ≠ g) ∧ (bt ≠ s_.2.2) ∧ (s_.2.2 ≠ bt) ∧ (bp ≠ s_.2.2) ∧ (s_.2.2 ≠ bp) ∧ (IsS112 w0 w' g ac bz) ∧ (KeepBut w w' g none) ∧ (Below w0.heap.size w0 w')) ?_ ?_
          rotate_left
          ·intro hJ0_11
           refine join_ (σ := Unit) 7 (tl_ 13 486) (fun s_ => [(14, .int .i64 b3), (18, .int .i64 cx), (19, .int .i64 (wrap64 (Int.tdiv cx 59))), (20, .int .i64 (wrap64 ((wrap64 (Int.tdiv cx 59)) * 5)))]) (fun s_ w' => (w'.heap[bt]? = some (.cells #[.slice d8 ce.length d9, .slice ea cr.length eb, .slice e4 eo.length e5] 28 (0, 0))) ∧ (w'.heap[bp]? = some (.cells #[.int .i64 0, .int .i64 0, .int .i64 0, .int .i64 0] 69 (0, 0))) ∧ (IsS112 w0 w' g ac hl) ∧ (KeepBut w w' g none) ∧ (Below w0.heap.size w0 w')) ?_ ?_
           rotate_left
           ·intro hJ2_6
            refine join_ (σ := Nat) 9 (tl_ 13 2086) (fun s_ => [(14, .int .i64 b3), (6, .pointer (some ⟨s_, 0, none⟩))]) (fun s_ w' => (w'.heap[bt]? = some (.cells #[.slice d8 ce.length d9, .slice ea cr.length eb, .slice e4 eo.length e5] 28 (0, 0))) ∧ (w'.heap[bp]? = some (.cells #[.int .i64 0, .int .i64 0, .int .i64 0, .int .i64 0] 69 (0, 0))) ∧ (w'.heap[s_]? = some (.cells #[.int .i64 0, .int .i64 0, .int .i64 0, .int .i64 0] 69 (0, 0))) ∧ (w.heap.size ≤ s_) ∧ (w0.heap.size ≤ s_) ∧ (g ≠ s_) ∧ (s_ ≠ g) ∧ (bt ≠ s_) ∧ (s_ ≠ bt) ∧ (bp ≠ s_) ∧ (s_ ≠ bp) ∧ (IsS112 w0 w' g ac gm) ∧ (KeepBut w w' g none) ∧ (Below w0.heap.size w0 w')) ?_ ?_
            rotate_left
            ·intro hJ2_11
             refine join_ (σ := Value × Addr) 10 (tl_ 13 35) (fun s_ => [(12, s_.1)]) (fun s_ w' => (Kd.R (Kd.int .i64) 3 w' w.heap.size (fun _ => True) s_.1 ap) ∧ (∃ c_, (s_.1 : Value) = .slice (some s_.2) ap.length c_) ∧ (w'.heap[bt]? = some (.cells #[.slice d8 ce.length d9, .slice ea cr.length eb, .slice e4 eo.length e5] 28 (0, 0))) ∧ (w'.heap[bp]? = some (.cells #[.int .i64 0, .int .i64 0, .int .i64 0, .int .i64 0] 69 (0, 0))) ∧ (IsS112 w0 w' g ac bz) ∧ (KeepBut w w' g none) ∧ (Below w0.heap.size w0 w')) ?_ ?_
             rotate_left
             ·intro hJ0
              refine join_ (σ := Unit) 10 (tl_ 13 38) (fun s_ => [(14, .int .i64 b3)]) (fun s_ w' => (w'.heap[bt]? = some (.cells #[.slice d8 ce.length d9, .slice ea cr.length eb, .slice e4 eo.length e5] 28 (0, 0))) ∧ (w'.heap[bp]? = some (.cells #[.int .i64 0, .int .i64 0, .int .i64 0, .int .i64 0] 69 (0, 0))) ∧ (IsS112 w0 w' g ac gm) ∧ (KeepBut w w' g none) ∧ (Below w0.heap.size w0 w')) ?_ ?_
              rotate_left
              ·intro hJ2
               refine join_ (σ := Nat) 10 (tl_ 13 2082) (fun s_ => [(6, .pointer (some ⟨s_, 0, none⟩))]) (fun s_ w' => (w'.heap[bt]? = some (.cells #[.slice d8 ce.length d9, .slice ea cr.length eb, .slice e4 eo.length e5] 28 (0, 0))) ∧ (w'.heap[bp]? = some (.cells #[.int .i64 0, .int .i64 0, .int .i64 0, .int .i64 0] 69 (0, 0))) ∧ (w'.heap[s_]? = some (.cells #[.int .i64 0, .int .i64 0, .int .i64 0, .int .i64 0] 69 (0, 0))) ∧ (w.heap.size ≤ s_) ∧ (w0.heap.size ≤ s_) ∧ (g ≠ s_) ∧ (s_ ≠ g) ∧ (bt ≠ s_) ∧ (s_ ≠ bt) ∧ (bp ≠ s_) ∧ (s_ ≠ bp) ∧ (IsS112 w0 w' g ac bz) ∧ (KeepBut w w' g none) ∧ (Below w0.heap.size w0 w')) ?_ ?_
               rotate_left
               ·intro hJ11
                refine three_ (i := 0) (j := 2) (k := 11) (Ni := some 12) (Nj := some 14) (Nk := some 6) (tl_ 13 35) (tl_ 13 38) (tl_ 13 2082) rfl rfl rfl rfl rfl rfl (three_of HT_.out (g1_)) (by decide) (by decide) (by decide) (fun K hK => ?_) (fun K hK => ?_) (fun K hK => ?_)
                ·skip
                 refine Kd.R_lit_step (Kd.int .i64) _ 3 ?hg (N := 12) ?hd (xs := ([0, 0, 1, 1, 1, 1, 2, 3, 4] : List Int)) (inner := [.int .i64 0, .int .i64 0, .int .i64 1, .int .i64 1, .int .i64 1, .int .i64 1, .int .i64 2, .int .i64 3, .int .i64 4]) (ok := fun _ => True) (okp := fun _ => True) ?hr ?hp (fun _ hk => hk) trivial (Below.refl _ _) (Nat.le_refl _) (by simp) ?_; (case hd => rfl); (case hg => rfl); (case hr => first | (go_simp; done) | (go_simp; rfl)); (case hp => exact (Reps.one (show Kd.M (Kd.int .i64) _ _ _ 0 [.int .i64 0] from rfl) (Reps.one (show Kd.M (Kd.int .i64) _ _ _ 0 [.int .i64 0] from rfl) (Reps.one (show Kd.M (Kd.int .i64) _ _ _ 1 [.int .i64 1] from rfl) (Reps.one (show Kd.M (Kd.int .i64) _ _ _ 1 [.int .i64 1] from rfl) (Reps.one (show Kd.M (Kd.int .i64) _ _ _ 1 [.int .i64 1] from rfl) (Reps.one (show Kd.M (Kd.int .i64) _ _ _ 1 [.int .i64 1] from rfl) (Reps.one (show Kd.M (Kd.int .i64) _ _ _ 2 [.int .i64 2] from rfl) (Reps.one (show Kd.M (Kd.int .i64) _ _ _ 3 [.int .i64 3] from rfl) (Reps.one (show Kd.M (Kd.int .i64) _ _ _ 4 [.int .i64 4] from rfl) (Reps.none _ _)))))))))))
                 intro fs w15 az8 hb hg_ hnew_
                 clear hg_ hnew_
                 (first | rw [← qc.out] at az8 | (simp only [Int.reduceToNat] at az8; rw [← qc.out] at az8))
                 have b6 := Aside0.mk (Kd.R_lower az8 (keep_size (w := w) (g := g) (row := none) (ci)))
                 replace av := bb_ av hb
                 replace ar := bb_ ar hb
                 replace HK := Aside0.mk (KeepBut.trans (ci) (KeepBut.of_below hb g none) (.inl rfl))
                 replace HB := Aside0.mk (below_step (ct) hb)
                 replace HI0 := Aside0.mk (IsS112.below (bh) hb)
                 clear hb az8
                 obtain ⟨dk, dh, u7⟩ := Kd.R_slice b6.out
                 subst u7
                 obtain ⟨ado17, fj7, _⟩ := Kd.at_int (Kd.R_reads' b6.out).2.2 0 (by decide) (g50_)
                 cases fj7
                 refine hK.out _ _ trivial (fun hHeld => ?_)
                 clear hK K
                 refine nm_ ?_
                 exact norm_ (g6_) (hJ0 (.slice (some ado17) ap.length dh, ado17) _ ⟨(uf2_ b6), ⟨_, rfl⟩, (uf0_ av), (uf0_ ar), (bh), (ci), (ct)⟩)
                ·skip
                 refine goes_ Try.func70 (g1_) rfl #[.pointer (some ⟨g, 0, none⟩), .int .i64 9] (by rfl) rfl rfl (g2_) ?_
                 with_reducible refine (spec_l20Rd_pick.calls k g ac bz 9 b3 gm w0 _ ?side1 ?side2 A4.out).mono ?_
                 (case side1 => exact bh)
                 (case side2 => exact ct)
                 rintro e w15 ⟨rfl, hi, hb, hk⟩
                 refine ⟨_, rfl, ?_⟩
                 replace av := kb_ hk av kv
                 replace ar := kb_ hk ar kh
                 replace HK := Aside0.mk (KeepBut.trans (ci) hk (.inl rfl))
                 replace HB := Aside0.mk (hb)
                 replace HI0 := Aside0.mk (hi)
                 (try clear hb)
                 (try clear hk hi)
                 refine hK.out _ _ trivial (fun hHeld => ?_)
                 clear hK K
                 refine nm_ ?_
                 exact norm_ (g6_) (hJ2 () _ ⟨(uf0_ av), (uf0_ ar), (bh), (ci), (ct)⟩)
                ·skip
                 refine bs_ (N := 6) #[.int .i64 0, .int .i64 0, .int .i64 0, .int .i64 0] 69 ?_
                 intro ai hg w15 hbox hb
                 replace HB := Aside0.mk (below_step (ct) hb)
                 have ay := Aside0.mk (hbox)
                 have f4 := Aside0.mk ((g9_ : w.heap.size ≤ ai))
                 have f5 := Aside0.mk ((Nat.le_trans HW0.out (g9_ : w.heap.size ≤ ai) : w0.heap.size ≤ ai))
                 replace HK := Aside0.mk (KeepBut.trans (ci) (KeepBut.of_below hb g none) (.inl rfl))
                 have eh := Aside0.mk ((g22_ : bt ≠ ai))
                 have ev := Aside0.mk ((g23_ : ai ≠ bt))
                 replace av := bb_ av hb
                 have ed := Aside0.mk ((g31_ : bp ≠ ai))
                 have ew := Aside0.mk ((g32_ : ai ≠ bp))
                 replace ar := bb_ ar hb
                 have fd := Aside0.mk ((by rw [hg]; exact Nat.ne_of_lt (IsS112.lt (show IsS112 w0 _ g ac bz from bh)) : g ≠ ai))
                 have d4 := Aside0.mk ((by rw [hg]; exact Nat.ne_of_gt (IsS112.lt (show IsS112 w0 _ g ac bz from bh)) : ai ≠ g))
                 replace HI0 := Aside0.mk (IsS112.below (bh) hb)
                 clear hb hbox hg
                 refine hK.out _ _ trivial (fun hHeld => ?_)
                 clear hK K
                 refine nm_ ?_
                 exact norm_ (g6_) (hJ11 (ai) _ ⟨(uf0_ av), (uf0_ ar), (uf0_ ay), f4.out, f5.out, fd.out, d4.out, eh.out, ev.out, ed.out, ew.out, (bh), (ci), (ct)⟩)
               ·skip
                rintro ai fo ⟨h0_, h1_, h2_, h3_, h4_, h5_, h6_, h7_, h8_, h9_, h10_, h11_, h12_, h13_⟩
                replace av : Aside0 (fo.heap[bt]? = some (.cells #[.slice d8 ce.length d9, .slice ea cr.length eb, .slice e4 eo.length e5] 28 (0, 0))) := ⟨h0_⟩
                replace ar : Aside0 (fo.heap[bp]? = some (.cells #[.int .i64 0, .int .i64 0, .int .i64 0, .int .i64 0] 69 (0, 0))) := ⟨h1_⟩
                have ay : Aside0 (fo.heap[ai]? = some (.cells #[.int .i64 0, .int .i64 0, .int .i64 0, .int .i64 0] 69 (0, 0))) := ⟨h2_⟩
                have f4 : Aside0 (w.heap.size ≤ ai) := ⟨h3_⟩
                have f5 : Aside0 (w0.heap.size ≤ ai) := ⟨h4_⟩
                have fd : Aside0 (g ≠ ai) := ⟨h5_⟩
                have d4 : Aside0 (ai ≠ g) := ⟨h6_⟩
                have eh : Aside0 (bt ≠ ai) := ⟨h7_⟩
                have ev : Aside0 (ai ≠ bt) := ⟨h8_⟩
                have ed : Aside0 (bp ≠ ai) := ⟨h9_⟩
                have ew : Aside0 (ai ≠ bp) := ⟨h10_⟩
                replace HI0 : Aside0 (IsS112 w0 fo g ac bz) := ⟨h11_⟩
                replace HK : Aside0 (KeepBut w fo g none) := ⟨h12_⟩
                replace HB : Aside0 (Below w0.heap.size w0 fo) := ⟨h13_⟩
                clear h0_ h1_ h2_ h3_ h4_ h5_ h6_ h7_ h8_ h9_ h10_ h11_ h12_ h13_
                have hHeld := trivial
                refine norm_ (a' := ?_) ?_ ?_
                rotate_left
                ·simp only [putAll, Act.put, List.setIfInBounds_toArray, List.set_cons_zero, List.set_cons_succ]
                 rfl
                refine two_ (i := 0) (j := 2) (Ni := some 12) (Nj := some 14) (tl_ 13 2083) (tl_ 13 2086) rfl rfl rfl rfl (two_of HT_.out (g1_)) (by decide) (by decide) (fun K hK => ?_) (fun K hK => ?_)
                ·skip
                 refine Kd.R_lit_step (Kd.int .i64) _ 3 ?hg (N := 12) ?hd (xs := ([0, 0, 1, 1, 1, 1, 2, 3, 4] : List Int)) (inner := [.int .i64 0, .int .i64 0, .int .i64 1, .int .i64 1, .int .i64 1, .int .i64 1, .int .i64 2, .int .i64 3, .int .i64 4]) (ok := fun _ => True) (okp := fun _ => True) ?hr ?hp (fun _ hk => hk) trivial (Below.refl _ _) (Nat.le_refl _) (by simp) ?_; (case hd => rfl); (case hg => rfl); (case hr => first | (go_simp; done) | (go_simp; rfl)); (case hp => exact (Reps.one (show Kd.M (Kd.int .i64) _ _ _ 0 [.int .i64 0] from rfl) (Reps.one (show Kd.M (Kd.int .i64) _ _ _ 0 [.int .i64 0] from rfl) (Reps.one (show Kd.M (Kd.int .i64) _ _ _ 1 [.int .i64 1] from rfl) (Reps.one (show Kd.M (Kd.int .i64) _ _ _ 1 [.int .i64 1] from rfl) (Reps.one (show Kd.M (Kd.int .i64) _ _ _ 1 [.int .i64 1] from rfl) (Reps.one (show Kd.M (Kd.int .i64) _ _ _ 1 [.int .i64 1] from rfl) (Reps.one (show Kd.M (Kd.int .i64) _ _ _ 2 [.int .i64 2] from rfl) (Reps.one (show Kd.M (Kd.int .i64) _ _ _ 3 [.int .i64 3] from rfl) (Reps.one (show Kd.M (Kd.int .i64) _ _ _ 4 [.int .i64 4] from rfl) (Reps.none _ _)))))))))))
                 intro fs h7 ss hb hg_ hnew_
                 clear hg_ hnew_
                 (first | rw [← qc.out] at ss | (simp only [Int.reduceToNat] at ss; rw [← qc.out] at ss))
                 have b6 := Aside0.mk (Kd.R_lower ss (keep_size (w := w) (g := g) (row := none) (ci)))
                 replace av := bb_ av hb
                 replace ar := bb_ ar hb
                 replace ay := bb_ ay hb
                 replace HK := Aside0.mk (KeepBut.trans (ci) (KeepBut.of_below hb g none) (.inl rfl))
                 replace HB := Aside0.mk (below_step (ct) hb)
                 replace HI0 := Aside0.mk (IsS112.below (bh) hb)
                 clear hb ss
                 obtain ⟨il, gh, ps⟩ := Kd.R_slice b6.out
                 subst ps
                 obtain ⟨ado19, cl5, _⟩ := Kd.at_int (Kd.R_reads' b6.out).2.2 0 (by decide) (g50_)
                 cases cl5
                 refine hK.out _ _ trivial (fun hHeld => ?_)
                 clear hK K
                 refine nm_ ?_
                 exact norm_ (g6_) (hJ0_11 (.slice (some ado19) ap.length gh, ado19, ai) _ ⟨(uf2_ b6), ⟨_, rfl⟩, (uf0_ av), (uf0_ ar), (uf0_ ay), f4.out, f5.out, fd.out, d4.out, eh.out, ev.out, ed.out, ew.out, (bh), (ci), (ct)⟩)
                ·skip
                 refine goes_ Try.func70 (g1_) rfl #[.pointer (some ⟨g, 0, none⟩), .int .i64 9] (by rfl) rfl rfl (g2_) ?_
                 with_reducible refine (spec_l20Rd_pick.calls k g ac bz 9 b3 gm w0 _ ?side1 ?side2 A4.out).mono ?_
                 (case side1 => exact bh)
                 (case side2 => exact ct)
                 rintro e h7 ⟨rfl, hi, hb, hk⟩
                 refine ⟨_, rfl, ?_⟩
                 replace av := kb_ hk av kv
                 replace ar := kb_ hk ar kh
                 replace ay := kb_ hk ay d4
                 replace HK := Aside0.mk (KeepBut.trans (ci) hk (.inl rfl))
                 replace HB := Aside0.mk (hb)
                 replace HI0 := Aside0.mk (hi)
                 (try clear hb)
                 (try clear hk hi)
                 refine hK.out _ _ trivial (fun hHeld => ?_)
                 clear hK K
                 refine nm_ ?_
                 exact norm_ (g6_) (hJ2_11 (ai) _ ⟨(uf0_ av), (uf0_ ar), (uf0_ ay), f4.out, f5.out, fd.out, d4.out, eh.out, ev.out, ed.out, ew.out, (bh), (ci), (ct)⟩)
              ·skip
               rintro _ fo ⟨h0_, h1_, h2_, h3_, h4_⟩
               replace av : Aside0 (fo.heap[bt]? = some (.cells #[.slice d8 ce.length d9, .slice ea cr.length eb, .slice e4 eo.length e5] 28 (0, 0))) := ⟨h0_⟩
               replace ar : Aside0 (fo.heap[bp]? = some (.cells #[.int .i64 0, .int .i64 0, .int .i64 0, .int .i64 0] 69 (0, 0))) := ⟨h1_⟩
               replace HI0 : Aside0 (IsS112 w0 fo g ac gm) := ⟨h2_⟩
               replace HK : Aside0 (KeepBut w fo g none) := ⟨h3_⟩
               replace HB : Aside0 (Below w0.heap.size w0 fo) := ⟨h4_⟩
               clear h0_ h1_ h2_ h3_ h4_
               have hHeld := trivial
               refine norm_ (a' := ?_) ?_ ?_
               rotate_left
               ·simp only [putAll, Act.put, List.setIfInBounds_toArray, List.set_cons_zero, List.set_cons_succ]
                rfl
               refine three_ (i := 0) (j := 6) (k := 11) (Ni := some 12) (Nj := some 18) (Nk := some 6) (tl_ 13 39) (tl_ 13 102) (tl_ 13 2086) rfl rfl rfl rfl rfl rfl (three_of HT_.out (g1_)) (by decide) (by decide) (by decide) (fun K hK => ?_) (fun K hK => ?_) (fun K hK => ?_)
               ·skip
                refine Kd.R_lit_step (Kd.int .i64) _ 3 ?hg (N := 12) ?hd (xs := ([0, 0, 1, 1, 1, 1, 2, 3, 4] : List Int)) (inner := [.int .i64 0, .int .i64 0, .int .i64 1, .int .i64 1, .int .i64 1, .int .i64 1, .int .i64 2, .int .i64 3, .int .i64 4]) (ok := fun _ => True) (okp := fun _ => True) ?hr ?hp (fun _ hk => hk) trivial (Below.refl _ _) (Nat.le_refl _) (by simp) ?_; (case hd => rfl); (case hg => rfl); (case hr => first | (go_simp; done) | (go_simp; rfl)); (case hp => exact (Reps.one (show Kd.M (Kd.int .i64) _ _ _ 0 [.int .i64 0] from rfl) (Reps.one (show Kd.M (Kd.int .i64) _ _ _ 0 [.int .i64 0] from rfl) (Reps.one (show Kd.M (Kd.int .i64) _ _ _ 1 [.int .i64 1] from rfl) (Reps.one (show Kd.M (Kd.int .i64) _ _ _ 1 [.int .i64 1] from rfl) (Reps.one (show Kd.M (Kd.int .i64) _ _ _ 1 [.int .i64 1] from rfl) (Reps.one (show Kd.M (Kd.int .i64) _ _ _ 1 [.int .i64 1] from rfl) (Reps.one (show Kd.M (Kd.int .i64) _ _ _ 2 [.int .i64 2] from rfl) (Reps.one (show Kd.M (Kd.int .i64) _ _ _ 3 [.int .i64 3] from rfl) (Reps.one (show Kd.M (Kd.int .i64) _ _ _ 4 [.int .i64 4] from rfl) (Reps.none _ _)))))))))))
                intro fs h7 ss hb hg_ hnew_
                clear hg_ hnew_
                (first | rw [← qc.out] at ss | (simp only [Int.reduceToNat] at ss; rw [← qc.out] at ss))
                have b6 := Aside0.mk (Kd.R_lower ss (keep_size (w := w) (g := g) (row := none) (ci)))
                replace av := bb_ av hb
                replace ar := bb_ ar hb
                replace HK := Aside0.mk (KeepBut.trans (ci) (KeepBut.of_below hb g none) (.inl rfl))
                replace HB := Aside0.mk (below_step (ct) hb)
                replace HI0 := Aside0.mk (IsS112.below (bh) hb)
                clear hb ss
                obtain ⟨il, gh, ps⟩ := Kd.R_slice b6.out
                subst ps
                obtain ⟨ado19, cl5, _⟩ := Kd.at_int (Kd.R_reads' b6.out).2.2 0 (by decide) (g50_)
                cases cl5
                refine hK.out _ _ trivial (fun hHeld => ?_)
                clear hK K
                refine nm_ ?_
                refine pw_ 3 15 (tl_ 13 47) rfl rfl ?_
                exact norm_ (g6_) (hJ0_2 (.slice (some ado19) ap.length gh, ado19) _ ⟨(uf2_ b6), ⟨_, rfl⟩, (uf0_ av), (uf0_ ar), (bh), (ci), (ct)⟩)
               ·skip
                refine goes_ Try.func70 (g1_) rfl #[.pointer (some ⟨g, 0, none⟩), .int .i64 60] (by rfl) rfl rfl (g2_) ?_
                with_reducible refine (spec_l20Rd_pick.calls k g ac gm 60 cx hl w0 _ ?side1 ?side2 A7.out).mono ?_
                (case side1 => exact bh)
                (case side2 => exact ct)
                rintro e h7 ⟨rfl, hi, hb, hk⟩
                refine ⟨_, rfl, ?_⟩
                replace av := kb_ hk av kv
                replace ar := kb_ hk ar kh
                replace HK := Aside0.mk (KeepBut.trans (ci) hk (.inl rfl))
                replace HB := Aside0.mk (hb)
                replace HI0 := Aside0.mk (hi)
                (try clear hb)
                (try clear hk hi)
                refine hK.out _ _ trivial (fun hHeld => ?_)
                clear hK K
                refine nm_ ?_
                refine pw_ 7 19 (tl_ 13 230) rfl rfl ?_
                refine pw_ 8 20 (tl_ 13 486) rfl rfl ?_
                exact norm_ (g6_) (hJ2_6 () _ ⟨(uf0_ av), (uf0_ ar), (bh), (ci), (ct)⟩)
               ·skip
                refine bs_ (N := 6) #[.int .i64 0, .int .i64 0, .int .i64 0, .int .i64 0] 69 ?_
                intro ai hg h7 hbox hb
                replace HB := Aside0.mk (below_step (ct) hb)
                have ay := Aside0.mk (hbox)
                have f4 := Aside0.mk ((g9_ : w.heap.size ≤ ai))
                have f5 := Aside0.mk ((Nat.le_trans HW0.out (g9_ : w.heap.size ≤ ai) : w0.heap.size ≤ ai))
                replace HK := Aside0.mk (KeepBut.trans (ci) (KeepBut.of_below hb g none) (.inl rfl))
                have eh := Aside0.mk ((g22_ : bt ≠ ai))
                have ev := Aside0.mk ((g23_ : ai ≠ bt))
                replace av := bb_ av hb
                have ed := Aside0.mk ((g31_ : bp ≠ ai))
                have ew := Aside0.mk ((g32_ : ai ≠ bp))
                replace ar := bb_ ar hb
                have fd := Aside0.mk ((by rw [hg]; exact Nat.ne_of_lt (IsS112.lt (show IsS112 w0 _ g ac gm from bh)) : g ≠ ai))
                have d4 := Aside0.mk ((by rw [hg]; exact Nat.ne_of_gt (IsS112.lt (show IsS112 w0 _ g ac gm from bh)) : ai ≠ g))
                replace HI0 := Aside0.mk (IsS112.below (bh) hb)
                clear hb hbox hg
                refine hK.out _ _ trivial (fun hHeld => ?_)
                clear hK K
                refine nm_ ?_
                exact norm_ (g6_) (hJ2_11 (ai) _ ⟨(uf0_ av), (uf0_ ar), (uf0_ ay), f4.out, f5.out, fd.out, d4.out, eh.out, ev.out, ed.out, ew.out, (bh), (ci), (ct)⟩)
             ·skip
              rintro ⟨fs, adz_v363⟩ kk ⟨h0_, h1_, h2_, h3_, h4_, h5_, h6_⟩
              have b6 : Aside0 (Kd.R (Kd.int .i64) 3 kk w.heap.size (fun _ => True) fs ap) := ⟨h0_⟩
              have HA_HO364 : Aside0 (∃ c_, (fs : Value) = .slice (some adz_v363) ap.length c_) := ⟨h1_⟩
              replace av : Aside0 (kk.heap[bt]? = some (.cells #[.slice d8 ce.length d9, .slice ea cr.length eb, .slice e4 eo.length e5] 28 (0, 0))) := ⟨h2_⟩
              replace ar : Aside0 (kk.heap[bp]? = some (.cells #[.int .i64 0, .int .i64 0, .int .i64 0, .int .i64 0] 69 (0, 0))) := ⟨h3_⟩
              replace HI0 : Aside0 (IsS112 w0 kk g ac bz) := ⟨h4_⟩
              replace HK : Aside0 (KeepBut w kk g none) := ⟨h5_⟩
              replace HB : Aside0 (Below w0.heap.size w0 kk) := ⟨h6_⟩
              clear h0_ h1_ h2_ h3_ h4_ h5_ h6_
              have hHeld := trivial
              obtain ⟨gh, ps⟩ := HA_HO364.out
              clear HA_HO364
              subst ps
              refine norm_ (a' := ?_) ?_ ?_
              rotate_left
              ·simp only [putAll, Act.put, List.setIfInBounds_toArray, List.set_cons_zero, List.set_cons_succ]
               rfl
              refine two_ (i := 2) (j := 11) (Ni := some 14) (Nj := some 6) (tl_ 13 39) (tl_ 13 2083) rfl rfl rfl rfl (two_of HT_.out (g1_)) (by decide) (by decide) (fun K hK => ?_) (fun K hK => ?_)
              ·skip
               refine goes_ Try.func70 (g1_) rfl #[.pointer (some ⟨g, 0, none⟩), .int .i64 9] (by rfl) rfl rfl (g2_) ?_
               with_reducible refine (spec_l20Rd_pick.calls k g ac bz 9 b3 gm w0 _ ?side1 ?side2 A4.out).mono ?_
               (case side1 => exact bh)
               (case side2 => exact ct)
               rintro e f8 ⟨rfl, hi, hb, hk⟩
               refine ⟨_, rfl, ?_⟩
               replace av := kb_ hk av kv
               replace ar := kb_ hk ar kh
               replace b6 := Aside0.mk (Kd.R_mono (Kd.R_keep (IsS112.apart (show IsS112 w0 _ g ac bz from bh) (uf2_ b6) (by decide)) hk (fun _ h => h.2)) (fun _ h => h.1))
               replace HK := Aside0.mk (KeepBut.trans (ci) hk (.inl rfl))
               replace HB := Aside0.mk (hb)
               replace HI0 := Aside0.mk (hi)
               (try clear hb)
               (try clear hk hi)
               refine hK.out _ _ trivial (fun hHeld => ?_)
               clear hK K
               refine nm_ ?_
               refine pw_ 3 15 (tl_ 13 47) rfl rfl ?_
               exact norm_ (g6_) (hJ0_2 (.slice (some adz_v363) ap.length gh, adz_v363) _ ⟨(uf2_ b6), ⟨_, rfl⟩, (uf0_ av), (uf0_ ar), (bh), (ci), (ct)⟩)
              ·skip
               refine bs_ (N := 6) #[.int .i64 0, .int .i64 0, .int .i64 0, .int .i64 0] 69 ?_
               intro ai hg f8 hbox hb
               replace b6 := Aside0.mk (Kd.R_below (uf2_ b6) hb)
               replace HB := Aside0.mk (below_step (ct) hb)
               have ay := Aside0.mk (hbox)
               have f4 := Aside0.mk ((g9_ : w.heap.size ≤ ai))
               have f5 := Aside0.mk ((Nat.le_trans HW0.out (g9_ : w.heap.size ≤ ai) : w0.heap.size ≤ ai))
               replace HK := Aside0.mk (KeepBut.trans (ci) (KeepBut.of_below hb g none) (.inl rfl))
               have eh := Aside0.mk ((g22_ : bt ≠ ai))
               have ev := Aside0.mk ((g23_ : ai ≠ bt))
               replace av := bb_ av hb
               have ed := Aside0.mk ((g31_ : bp ≠ ai))
               have ew := Aside0.mk ((g32_ : ai ≠ bp))
               replace ar := bb_ ar hb
               have fd := Aside0.mk ((by rw [hg]; exact Nat.ne_of_lt (IsS112.lt (show IsS112 w0 _ g ac bz from bh)) : g ≠ ai))
               have d4 := Aside0.mk ((by rw [hg]; exact Nat.ne_of_gt (IsS112.lt (show IsS112 w0 _ g ac bz from bh)) : ai ≠ g))
               replace HI0 := Aside0.mk (IsS112.below (bh) hb)
               clear hb hbox hg
               refine hK.out _ _ trivial (fun hHeld => ?_)
               clear hK K
               refine nm_ ?_
               exact norm_ (g6_) (hJ0_11 (.slice (some adz_v363) ap.length gh, adz_v363, ai) _ ⟨(uf2_ b6), ⟨_, rfl⟩, (uf0_ av), (uf0_ ar), (uf0_ ay), f4.out, f5.out, fd.out, d4.out, eh.out, ev.out, ed.out, ew.out, (bh), (ci), (ct)⟩)
            ·skip
             rintro ai h7 ⟨h0_, h1_, h2_, h3_, h4_, h5_, h6_, h7_, h8_, h9_, h10_, h11_, h12_, h13_⟩
             replace av : Aside0 (h7.heap[bt]? = some (.cells #[.slice d8 ce.length d9, .slice ea cr.length eb, .slice e4 eo.length e5] 28 (0, 0))) := ⟨h0_⟩
             replace ar : Aside0 (h7.heap[bp]? = some (.cells #[.int .i64 0, .int .i64 0, .int .i64 0, .int .i64 0] 69 (0, 0))) := ⟨h1_⟩
             have ay : Aside0 (h7.heap[ai]? = some (.cells #[.int .i64 0, .int .i64 0, .int .i64 0, .int .i64 0] 69 (0, 0))) := ⟨h2_⟩
             have f4 : Aside0 (w.heap.size ≤ ai) := ⟨h3_⟩
             have f5 : Aside0 (w0.heap.size ≤ ai) := ⟨h4_⟩
             have fd : Aside0 (g ≠ ai) := ⟨h5_⟩
             have d4 : Aside0 (ai ≠ g) := ⟨h6_⟩
             have eh : Aside0 (bt ≠ ai) := ⟨h7_⟩
             have ev : Aside0 (ai ≠ bt) := ⟨h8_⟩
             have ed : Aside0 (bp ≠ ai) := ⟨h9_⟩
             have ew : Aside0 (ai ≠ bp) := ⟨h10_⟩
             replace HI0 : Aside0 (IsS112 w0 h7 g ac gm) := ⟨h11_⟩
             replace HK : Aside0 (KeepBut w h7 g none) := ⟨h12_⟩
             replace HB : Aside0 (Below w0.heap.size w0 h7) := ⟨h13_⟩
             clear h0_ h1_ h2_ h3_ h4_ h5_ h6_ h7_ h8_ h9_ h10_ h11_ h12_ h13_
             have hHeld := trivial
             refine norm_ (a' := ?_) ?_ ?_
             rotate_left
             ·simp only [putAll, Act.put, List.setIfInBounds_toArray, List.set_cons_zero, List.set_cons_succ]
              rfl
             refine two_ (i := 0) (j := 6) (Ni := some 12) (Nj := some 18) (tl_ 13 2087) (tl_ 13 2150) rfl rfl rfl rfl (two_of HT_.out (g1_)) (by decide) (by decide) (fun K hK => ?_) (fun K hK => ?_)
             ·skip
              refine Kd.R_lit_step (Kd.int .i64) _ 3 ?hg (N := 12) ?hd (xs := ([0, 0, 1, 1, 1, 1, 2, 3, 4] : List Int)) (inner := [.int .i64 0, .int .i64 0, .int .i64 1, .int .i64 1, .int .i64 1, .int .i64 1, .int .i64 2, .int .i64 3, .int .i64 4]) (ok := fun _ => True) (okp := fun _ => True) ?hr ?hp (fun _ hk => hk) trivial (Below.refl _ _) (Nat.le_refl _) (by simp) ?_; (case hd => rfl); (case hg => rfl); (case hr => first | (go_simp; done) | (go_simp; rfl)); (case hp => exact (Reps.one (show Kd.M (Kd.int .i64) _ _ _ 0 [.int .i64 0] from rfl) (Reps.one (show Kd.M (Kd.int .i64) _ _ _ 0 [.int .i64 0] from rfl) (Reps.one (show Kd.M (Kd.int .i64) _ _ _ 1 [.int .i64 1] from rfl) (Reps.one (show Kd.M (Kd.int .i64) _ _ _ 1 [.int .i64 1] from rfl) (Reps.one (show Kd.M (Kd.int .i64) _ _ _ 1 [.int .i64 1] from rfl) (Reps.one (show Kd.M (Kd.int .i64) _ _ _ 1 [.int .i64 1] from rfl) (Reps.one (show Kd.M (Kd.int .i64) _ _ _ 2 [.int .i64 2] from rfl) (Reps.one (show Kd.M (Kd.int .i64) _ _ _ 3 [.int .i64 3] from rfl) (Reps.one (show Kd.M (Kd.int .i64) _ _ _ 4 [.int .i64 4] from rfl) (Reps.none _ _)))))))))))
              intro fs kk st hb hg_ hnew_
              clear hg_ hnew_
              (first | rw [← qc.out] at st | (simp only [Int.reduceToNat] at st; rw [← qc.out] at st))
              have b6 := Aside0.mk (Kd.R_lower st (keep_size (w := w) (g := g) (row := none) (ci)))
              replace av := bb_ av hb
              replace ar := bb_ ar hb
              replace ay := bb_ ay hb
              replace HK := Aside0.mk (KeepBut.trans (ci) (KeepBut.of_below hb g none) (.inl rfl))
              replace HB := Aside0.mk (below_step (ct) hb)
              replace HI0 := Aside0.mk (IsS112.below (bh) hb)
              clear hb st
              obtain ⟨kw, gn, su⟩ := Kd.R_slice b6.out
              subst su
              obtain ⟨ado20, cl6, _⟩ := Kd.at_int (Kd.R_reads' b6.out).2.2 0 (by decide) (g50_)
              cases cl6
              refine hK.out _ _ trivial (fun hHeld => ?_)
              clear hK K
              refine nm_ ?_
              refine pw_ 3 15 (tl_ 13 2095) rfl rfl ?_
              exact norm_ (g6_) (hJ0_2_11 (.slice (some ado20) ap.length gn, ado20, ai) _ ⟨(uf2_ b6), ⟨_, rfl⟩, (uf0_ av), (uf0_ ar), (uf0_ ay), f4.out, f5.out, fd.out, d4.out, eh.out, ev.out, ed.out, ew.out, (bh), (ci), (ct)⟩)
             ·skip
              refine goes_ Try.func70 (g1_) rfl #[.pointer (some ⟨g, 0, none⟩), .int .i64 60] (by rfl) rfl rfl (g2_) ?_
              with_reducible refine (spec_l20Rd_pick.calls k g ac gm 60 cx hl w0 _ ?side1 ?side2 A7.out).mono ?_
              (case side1 => exact bh)
              (case side2 => exact ct)
              rintro e kk ⟨rfl, hi, hb, hk⟩
              refine ⟨_, rfl, ?_⟩
              replace av := kb_ hk av kv
              replace ar := kb_ hk ar kh
              replace ay := kb_ hk ay d4
              replace HK := Aside0.mk (KeepBut.trans (ci) hk (.inl rfl))
              replace HB := Aside0.mk (hb)
              replace HI0 := Aside0.mk (hi)
              (try clear hb)
              (try clear hk hi)
              refine hK.out _ _ trivial (fun hHeld => ?_)
              clear hK K
              refine nm_ ?_
              refine pw_ 7 19 (tl_ 13 2278) rfl rfl ?_
              refine pw_ 8 20 (tl_ 13 2534) rfl rfl ?_
              exact norm_ (g6_) (hJ2_6_11 (ai) _ ⟨(uf0_ av), (uf0_ ar), (uf0_ ay), f4.out, f5.out, fd.out, d4.out, eh.out, ev.out, ed.out, ew.out, (bh), (ci), (ct)⟩)
           ·skip
            rintro _ h7 ⟨h0_, h1_, h2_, h3_, h4_⟩
            replace av : Aside0 (h7.heap[bt]? = some (.cells #[.slice d8 ce.length d9, .slice ea cr.length eb, .slice e4 eo.length e5] 28 (0, 0))) := ⟨h0_⟩
            replace ar : Aside0 (h7.heap[bp]? = some (.cells #[.int .i64 0, .int .i64 0, .int .i64 0, .int .i64 0] 69 (0, 0))) := ⟨h1_⟩
            replace HI0 : Aside0 (IsS112 w0 h7 g ac hl) := ⟨h2_⟩
            replace HK : Aside0 (KeepBut w h7 g none) := ⟨h3_⟩
            replace HB : Aside0 (Below w0.heap.size w0 h7) := ⟨h4_⟩
            clear h0_ h1_ h2_ h3_ h4_
            have hHeld := trivial
            refine norm_ (a' := ?_) ?_ ?_
            rotate_left
            ·simp only [putAll, Act.put, List.setIfInBounds_toArray, List.set_cons_zero, List.set_cons_succ]
             rfl
            refine two_ (i := 0) (j := 11) (Ni := some 12) (Nj := some 6) (tl_ 13 487) (tl_ 13 2534) rfl rfl rfl rfl (two_of HT_.out (g1_)) (by decide) (by decide) (fun K hK => ?_) (fun K hK => ?_)
            ·skip
             refine Kd.R_lit_step (Kd.int .i64) _ 3 ?hg (N := 12) ?hd (xs := ([0, 0, 1, 1, 1, 1, 2, 3, 4] : List Int)) (inner := [.int .i64 0, .int .i64 0, .int .i64 1, .int .i64 1, .int .i64 1, .int .i64 1, .int .i64 2, .int .i64 3, .int .i64 4]) (ok := fun _ => True) (okp := fun _ => True) ?hr ?hp (fun _ hk => hk) trivial (Below.refl _ _) (Nat.le_refl _) (by simp) ?_; (case hd => rfl); (case hg => rfl); (case hr => first | (go_simp; done) | (go_simp; rfl)); (case hp => exact (Reps.one (show Kd.M (Kd.int .i64) _ _ _ 0 [.int .i64 0] from rfl) (Reps.one (show Kd.M (Kd.int .i64) _ _ _ 0 [.int .i64 0] from rfl) (Reps.one (show Kd.M (Kd.int .i64) _ _ _ 1 [.int .i64 1] from rfl) (Reps.one (show Kd.M (Kd.int .i64) _ _ _ 1 [.int .i64 1] from rfl) (Reps.one (show Kd.M (Kd.int .i64) _ _ _ 1 [.int .i64 1] from rfl) (Reps.one (show Kd.M (Kd.int .i64) _ _ _ 1 [.int .i64 1] from rfl) (Reps.one (show Kd.M (Kd.int .i64) _ _ _ 2 [.int .i64 2] from rfl) (Reps.one (show Kd.M (Kd.int .i64) _ _ _ 3 [.int .i64 3] from rfl) (Reps.one (show Kd.M (Kd.int .i64) _ _ _ 4 [.int .i64 4] from rfl) (Reps.none _ _)))))))))))
             intro fs kk st hb hg_ hnew_
             clear hg_ hnew_
             (first | rw [← qc.out] at st | (simp only [Int.reduceToNat] at st; rw [← qc.out] at st))
             have b6 := Aside0.mk (Kd.R_lower st (keep_size (w := w) (g := g) (row := none) (ci)))
             replace av := bb_ av hb
             replace ar := bb_ ar hb
             replace HK := Aside0.mk (KeepBut.trans (ci) (KeepBut.of_below hb g none) (.inl rfl))
             replace HB := Aside0.mk (below_step (ct) hb)
             replace HI0 := Aside0.mk (IsS112.below (bh) hb)
             clear hb st
             obtain ⟨kw, gn, su⟩ := Kd.R_slice b6.out
             subst su
             obtain ⟨ado20, cl6, _⟩ := Kd.at_int (Kd.R_reads' b6.out).2.2 0 (by decide) (g50_)
             cases cl6
             refine hK.out _ _ trivial (fun hHeld => ?_)
             clear hK K
             refine nm_ ?_
             refine pw_ 3 15 (tl_ 13 495) rfl rfl ?_
             exact norm_ (g6_) (hJ0_2_6 (.slice (some ado20) ap.length gn, ado20) _ ⟨(uf2_ b6), ⟨_, rfl⟩, (uf0_ av), (uf0_ ar), (bh), (ci), (ct)⟩)
            ·skip
             refine bs_ (N := 6) #[.int .i64 0, .int .i64 0, .int .i64 0, .int .i64 0] 69 ?_
             intro ai hg kk hbox hb
             replace HB := Aside0.mk (below_step (ct) hb)
             have ay := Aside0.mk (hbox)
             have f4 := Aside0.mk ((g9_ : w.heap.size ≤ ai))
             have f5 := Aside0.mk ((Nat.le_trans HW0.out (g9_ : w.heap.size ≤ ai) : w0.heap.size ≤ ai))
             replace HK := Aside0.mk (KeepBut.trans (ci) (KeepBut.of_below hb g none) (.inl rfl))
             have eh := Aside0.mk ((g22_ : bt ≠ ai))
             have ev := Aside0.mk ((g23_ : ai ≠ bt))
             replace av := bb_ av hb
             have ed := Aside0.mk ((g31_ : bp ≠ ai))
             have ew := Aside0.mk ((g32_ : ai ≠ bp))
             replace ar := bb_ ar hb
             have fd := Aside0.mk ((by rw [hg]; exact Nat.ne_of_lt (IsS112.lt (show IsS112 w0 _ g ac hl from bh)) : g ≠ ai))
             have d4 := Aside0.mk ((by rw [hg]; exact Nat.ne_of_gt (IsS112.lt (show IsS112 w0 _ g ac hl from bh)) : ai ≠ g))
             replace HI0 := Aside0.mk (IsS112.below (bh) hb)
             clear hb hbox hg
             refine hK.out _ _ trivial (fun hHeld => ?_)
             clear hK K
             refine nm_ ?_
             exact norm_ (g6_) (hJ2_6_11 (ai) _ ⟨(uf0_ av), (uf0_ ar), (uf0_ ay), f4.out, f5.out, fd.out, d4.out, eh.out, ev.out, ed.out, ew.out, (bh), (ci), (ct)⟩)
          ·skip
           rintro ⟨fs, adz_v363, ai⟩ jn ⟨h0_, h1_, h2_, h3_, h4_, h5_, h6_, h7_, h8_, h9_, h10_, h11_, h12_, h13_, h14_, h15_⟩
           have b6 : Aside0 (Kd.R (Kd.int .i64) 3 jn w.heap.size (fun _ => True) fs ap) := ⟨h0_⟩
           have HA_HO364 : Aside0 (∃ c_, (fs : Value) = .slice (some adz_v363) ap.length c_) := ⟨h1_⟩
           replace av : Aside0 (jn.heap[bt]? = some (.cells #[.slice d8 ce.length d9, .slice ea cr.length eb, .slice e4 eo.length e5] 28 (0, 0))) := ⟨h2_⟩
           replace ar : Aside0 (jn.heap[bp]? = some (.cells #[.int .i64 0, .int .i64 0, .int .i64 0, .int .i64 0] 69 (0, 0))) := ⟨h3_⟩
           have ay : Aside0 (jn.heap[ai]? = some (.cells #[.int .i64 0, .int .i64 0, .int .i64 0, .int .i64 0] 69 (0, 0))) := ⟨h4_⟩
           have f4 : Aside0 (w.heap.size ≤ ai) := ⟨h5_⟩
           have f5 : Aside0 (w0.heap.size ≤ ai) := ⟨h6_⟩
           have fd : Aside0 (g ≠ ai) := ⟨h7_⟩
           have d4 : Aside0 (ai ≠ g) := ⟨h8_⟩
           have eh : Aside0 (bt ≠ ai) := ⟨h9_⟩
           have ev : Aside0 (ai ≠ bt) := ⟨h10_⟩
           have ed : Aside0 (bp ≠ ai) := ⟨h11_⟩
           have ew : Aside0 (ai ≠ bp) := ⟨h12_⟩
           replace HI0 : Aside0 (IsS112 w0 jn g ac bz) := ⟨h13_⟩
           replace HK : Aside0 (KeepBut w jn g none) := ⟨h14_⟩
           replace HB : Aside0 (Below w0.heap.size w0 jn) := ⟨h15_⟩
           clear h0_ h1_ h2_ h3_ h4_ h5_ h6_ h7_ h8_ h9_ h10_ h11_ h12_ h13_ h14_ h15_
           have hHeld := trivial
           obtain ⟨gn, su⟩ := HA_HO364.out
           clear HA_HO364
           subst su
           refine norm_ (a' := ?_) ?_ ?_
           rotate_left
           ·simp only [putAll, Act.put, List.setIfInBounds_toArray, List.set_cons_zero, List.set_cons_succ]
            rfl
           refine one_ (i := 2) (N := some 14) (tl_ 13 2087) rfl rfl (one_of HT_.out (g1_)) (by decide) (fun K hK => ?_)
           refine goes_ Try.func70 (g1_) rfl #[.pointer (some ⟨g, 0, none⟩), .int .i64 9] (by rfl) rfl rfl (g2_) ?_
           with_reducible refine (spec_l20Rd_pick.calls k g ac bz 9 b3 gm w0 _ ?side1 ?side2 A4.out).mono ?_
           (case side1 => exact bh)
           (case side2 => exact ct)
           rintro e f9 ⟨rfl, hi, hb, hk⟩
           refine ⟨_, rfl, ?_⟩
           replace av := kb_ hk av kv
           replace ar := kb_ hk ar kh
           replace b6 := Aside0.mk (Kd.R_mono (Kd.R_keep (IsS112.apart (show IsS112 w0 _ g ac bz from bh) (uf2_ b6) (by decide)) hk (fun _ h => h.2)) (fun _ h => h.1))
           replace ay := kb_ hk ay d4
           replace HK := Aside0.mk (KeepBut.trans (ci) hk (.inl rfl))
           replace HB := Aside0.mk (hb)
           replace HI0 := Aside0.mk (hi)
           (try clear hb)
           (try clear hk hi)
           refine hK.out _ _ trivial (fun hHeld => ?_)
           clear hK K
           refine nm_ ?_
           refine pw_ 3 15 (tl_ 13 2095) rfl rfl ?_
           exact norm_ (g6_) (hJ0_2_11 (.slice (some adz_v363) ap.length gn, adz_v363, ai) _ ⟨(uf2_ b6), ⟨_, rfl⟩, (uf0_ av), (uf0_ ar), (uf0_ ay), f4.out, f5.out, fd.out, d4.out, eh.out, ev.out, ed.out, ew.out, (bh), (ci), (ct)⟩)
         ·skip
          rintro ⟨fs, adz_v363⟩ jn ⟨h0_, h1_, h2_, h3_, h4_, h5_, h6_⟩
          have b6 : Aside0 (Kd.R (Kd.int .i64) 3 jn w.heap.size (fun _ => True) fs ap) := ⟨h0_⟩
          have HA_HO364 : Aside0 (∃ c_, (fs : Value) = .slice (some adz_v363) ap.length c_) := ⟨h1_⟩
          replace av : Aside0 (jn.heap[bt]? = some (.cells #[.slice d8 ce.length d9, .slice ea cr.length eb, .slice e4 eo.length e5] 28 (0, 0))) := ⟨h2_⟩
          replace ar : Aside0 (jn.heap[bp]? = some (.cells #[.int .i64 0, .int .i64 0, .int .i64 0, .int .i64 0] 69 (0, 0))) := ⟨h3_⟩
          replace HI0 : Aside0 (IsS112 w0 jn g ac gm) := ⟨h4_⟩
          replace HK : Aside0 (KeepBut w jn g none) := ⟨h5_⟩
          replace HB : Aside0 (Below w0.heap.size w0 jn) := ⟨h6_⟩
          clear h0_ h1_ h2_ h3_ h4_ h5_ h6_
          have hHeld := trivial
          obtain ⟨gn, su⟩ := HA_HO364.out
          clear HA_HO364
          subst su
          refine norm_ (a' := ?_) ?_ ?_
          rotate_left
          ·simp only [putAll, Act.put, List.setIfInBounds_toArray, List.set_cons_zero, List.set_cons_succ]
           rfl
          refine three_ (i := 4) (j := 6) (k := 11) (Ni := some 16) (Nj := some 18) (Nk := some 6) (tl_ 13 63) (tl_ 13 111) (tl_ 13 2095) rfl rfl rfl rfl rfl rfl (three_of HT_.out (g1_)) (by decide) (by decide) (by decide) (fun K hK => ?_) (fun K hK => ?_) (fun K hK => ?_)
          ·skip
           (have wk : 0 ≤ (b3 : Int) := of_decide_eq_true (g0_); have wl : b3 < (ap.length : Int) := of_decide_eq_true (g0_); obtain ⟨af2, af3, wm⟩ := Kd.at_int (Kd.R_reads' b6.out).2.2 b3 wk wl; obtain rfl : adz_v363 = af2 := (by injection af3))
           refine value_ (w1 := ?_) (v := ?_) (by rfl) rfl ?_ ?_
           rotate_left 2
           ·go_simp
            constructor
            ·rfl
            ·rfl
           clear wm
           refine hK.out _ _ trivial (fun hHeld => ?_)
           clear hK K
           refine nm_ ?_
           exact norm_ (g6_) (hJ0_2_4 (.slice (some adz_v363) ap.length gn, adz_v363) _ ⟨(uf2_ b6), ⟨_, rfl⟩, (uf0_ av), (uf0_ ar), (bh), (ci), (ct)⟩)
          ·skip
           refine goes_ Try.func70 (g1_) rfl #[.pointer (some ⟨g, 0, none⟩), .int .i64 60] (by rfl) rfl rfl (g2_) ?_
           with_reducible refine (spec_l20Rd_pick.calls k g ac gm 60 cx hl w0 _ ?side1 ?side2 A7.out).mono ?_
           (case side1 => exact bh)
           (case side2 => exact ct)
           rintro e f9 ⟨rfl, hi, hb, hk⟩
           refine ⟨_, rfl, ?_⟩
           replace av := kb_ hk av kv
           replace ar := kb_ hk ar kh
           replace b6 := Aside0.mk (Kd.R_mono (Kd.R_keep (IsS112.apart (show IsS112 w0 _ g ac gm from bh) (uf2_ b6) (by decide)) hk (fun _ h => h.2)) (fun _ h => h.1))
           replace HK := Aside0.mk (KeepBut.trans (ci) hk (.inl rfl))
           replace HB := Aside0.mk (hb)
           replace HI0 := Aside0.mk (hi)
           (try clear hb)
           (try clear hk hi)
           refine hK.out _ _ trivial (fun hHeld => ?_)
           clear hK K
           refine nm_ ?_
           refine pw_ 7 19 (tl_ 13 239) rfl rfl ?_
           refine pw_ 8 20 (tl_ 13 495) rfl rfl ?_
           exact norm_ (g6_) (hJ0_2_6 (.slice (some adz_v363) ap.length gn, adz_v363) _ ⟨(uf2_ b6), ⟨_, rfl⟩, (uf0_ av), (uf0_ ar), (bh), (ci), (ct)⟩)
          ·skip
           refine bs_ (N := 6) #[.int .i64 0, .int .i64 0, .int .i64 0, .int .i64 0] 69 ?_
           intro ai hg f9 hbox hb
           replace b6 := Aside0.mk (Kd.R_below (uf2_ b6) hb)
           replace HB := Aside0.mk (below_step (ct) hb)
           have ay := Aside0.mk (hbox)
           have f4 := Aside0.mk ((g9_ : w.heap.size ≤ ai))
           have f5 := Aside0.mk ((Nat.le_trans HW0.out (g9_ : w.heap.size ≤ ai) : w0.heap.size ≤ ai))
           replace HK := Aside0.mk (KeepBut.trans (ci) (KeepBut.of_below hb g none) (.inl rfl))
           have eh := Aside0.mk ((g22_ : bt ≠ ai))
           have ev := Aside0.mk ((g23_ : ai ≠ bt))
           replace av := bb_ av hb
           have ed := Aside0.mk ((g31_ : bp ≠ ai))
           have ew := Aside0.mk ((g32_ : ai ≠ bp))
           replace ar := bb_ ar hb
           have fd := Aside0.mk ((by rw [hg]; exact Nat.ne_of_lt (IsS112.lt (show IsS112 w0 _ g ac gm from bh)) : g ≠ ai))
           have d4 := Aside0.mk ((by rw [hg]; exact Nat.ne_of_gt (IsS112.lt (show IsS112 w0 _ g ac gm from bh)) : ai ≠ g))
           replace HI0 := Aside0.mk (IsS112.below (bh) hb)
           clear hb hbox hg
           refine hK.out _ _ trivial (fun hHeld => ?_)
           clear hK K
           refine nm_ ?_
           exact norm_ (g6_) (hJ0_2_11 (.slice (some adz_v363) ap.length gn, adz_v363, ai) _ ⟨(uf2_ b6), ⟨_, rfl⟩, (uf0_ av), (uf0_ ar), (uf0_ ay), f4.out, f5.out, fd.out, d4.out, eh.out, ev.out, ed.out, ew.out, (bh), (ci), (ct)⟩)
        ·skip
         rintro ai kk ⟨h0_, h1_, h2_, h3_, h4_, h5_, h6_, h7_, h8_, h9_, h10_, h11_, h12_, h13_⟩
         replace av : Aside0 (kk.heap[bt]? = some (.cells #[.slice d8 ce.length d9, .slice ea cr.length eb, .slice e4 eo.length e5] 28 (0, 0))) := ⟨h0_⟩
         replace ar : Aside0 (kk.heap[bp]? = some (.cells #[.int .i64 0, .int .i64 0, .int .i64 0, .int .i64 0] 69 (0, 0))) := ⟨h1_⟩
         have ay : Aside0 (kk.heap[ai]? = some (.cells #[.int .i64 0, .int .i64 0, .int .i64 0, .int .i64 0] 69 (0, 0))) := ⟨h2_⟩
         have f4 : Aside0 (w.heap.size ≤ ai) := ⟨h3_⟩
         have f5 : Aside0 (w0.heap.size ≤ ai) := ⟨h4_⟩
         have fd : Aside0 (g ≠ ai) := ⟨h5_⟩
         have d4 : Aside0 (ai ≠ g) := ⟨h6_⟩
         have eh : Aside0 (bt ≠ ai) := ⟨h7_⟩
         have ev : Aside0 (ai ≠ bt) := ⟨h8_⟩
         have ed : Aside0 (bp ≠ ai) := ⟨h9_⟩
         have ew : Aside0 (ai ≠ bp) := ⟨h10_⟩
         replace HI0 : Aside0 (IsS112 w0 kk g ac hl) := ⟨h11_⟩
         replace HK : Aside0 (KeepBut w kk g none) := ⟨h12_⟩
         replace HB : Aside0 (Below w0.heap.size w0 kk) := ⟨h13_⟩
         clear h0_ h1_ h2_ h3_ h4_ h5_ h6_ h7_ h8_ h9_ h10_ h11_ h12_ h13_
         have hHeld := trivial
         refine norm_ (a' := ?_) ?_ ?_
         rotate_left
         ·simp only [putAll, Act.put, List.setIfInBounds_toArray, List.set_cons_zero, List.set_cons_succ]
          rfl
         refine one_ (i := 0) (N := some 12) (tl_ 13 2535) rfl rfl (one_of HT_.out (g1_)) (by decide) (fun K hK => ?_)
         refine Kd.R_lit_step (Kd.int .i64) _ 3 ?hg (N := 12) ?hd (xs := ([0, 0, 1, 1, 1, 1, 2, 3, 4] : List Int)) (inner := [.int .i64 0, .int .i64 0, .int .i64 1, .int .i64 1, .int .i64 1, .int .i64 1, .int .i64 2, .int .i64 3, .int .i64 4]) (ok := fun _ => True) (okp := fun _ => True) ?hr ?hp (fun _ hk => hk) trivial (Below.refl _ _) (Nat.le_refl _) (by simp) ?_; (case hd => rfl); (case hg => rfl); (case hr => first | (go_simp; done) | (go_simp; rfl)); (case hp => exact (Reps.one (show Kd.M (Kd.int .i64) _ _ _ 0 [.int .i64 0] from rfl) (Reps.one (show Kd.M (Kd.int .i64) _ _ _ 0 [.int .i64 0] from rfl) (Reps.one (show Kd.M (Kd.int .i64) _ _ _ 1 [.int .i64 1] from rfl) (Reps.one (show Kd.M (Kd.int .i64) _ _ _ 1 [.int .i64 1] from rfl) (Reps.one (show Kd.M (Kd.int .i64) _ _ _ 1 [.int .i64 1] from rfl) (Reps.one (show Kd.M (Kd.int .i64) _ _ _ 1 [.int .i64 1] from rfl) (Reps.one (show Kd.M (Kd.int .i64) _ _ _ 2 [.int .i64 2] from rfl) (Reps.one (show Kd.M (Kd.int .i64) _ _ _ 3 [.int .i64 3] from rfl) (Reps.one (show Kd.M (Kd.int .i64) _ _ _ 4 [.int .i64 4] from rfl) (Reps.none _ _)))))))))))
         intro fs jn az9 hb hg_ hnew_
         clear hg_ hnew_
         (first | rw [← qc.out] at az9 | (simp only [Int.reduceToNat] at az9; rw [← qc.out] at az9))
         have b6 := Aside0.mk (Kd.R_lower az9 (keep_size (w := w) (g := g) (row := none) (ci)))
         replace av := bb_ av hb
         replace ar := bb_ ar hb
         replace ay := bb_ ay hb
         replace HK := Aside0.mk (KeepBut.trans (ci) (KeepBut.of_below hb g none) (.inl rfl))
         replace HB := Aside0.mk (below_step (ct) hb)
         replace HI0 := Aside0.mk (IsS112.below (bh) hb)
         clear hb az9
         obtain ⟨he7, sv, wn⟩ := Kd.R_slice b6.out
         subst wn
         obtain ⟨ado21, fj8, _⟩ := Kd.at_int (Kd.R_reads' b6.out).2.2 0 (by decide) (g50_)
         cases fj8
         refine hK.out _ _ trivial (fun hHeld => ?_)
         clear hK K
         refine nm_ ?_
         refine pw_ 3 15 (tl_ 13 2543) rfl rfl ?_
         exact norm_ (g6_) (hJ0_2_6_11 (.slice (some ado21) ap.length sv, ado21, ai) _ ⟨(uf2_ b6), ⟨_, rfl⟩, (uf0_ av), (uf0_ ar), (uf0_ ay), f4.out, f5.out, fd.out, d4.out, eh.out, ev.out, ed.out, ew.out, (bh), (ci), (ct)⟩)
       ·skip
        rintro ⟨fs, adz_v363, ai⟩ f8 ⟨h0_, h1_, h2_, h3_, h4_, h5_, h6_, h7_, h8_, h9_, h10_, h11_, h12_, h13_, h14_, h15_⟩
        have b6 : Aside0 (Kd.R (Kd.int .i64) 3 f8 w.heap.size (fun _ => True) fs ap) := ⟨h0_⟩
        have HA_HO364 : Aside0 (∃ c_, (fs : Value) = .slice (some adz_v363) ap.length c_) := ⟨h1_⟩
        replace av : Aside0 (f8.heap[bt]? = some (.cells #[.slice d8 ce.length d9, .slice ea cr.length eb, .slice e4 eo.length e5] 28 (0, 0))) := ⟨h2_⟩
        replace ar : Aside0 (f8.heap[bp]? = some (.cells #[.int .i64 0, .int .i64 0, .int .i64 0, .int .i64 0] 69 (0, 0))) := ⟨h3_⟩
        have ay : Aside0 (f8.heap[ai]? = some (.cells #[.int .i64 0, .int .i64 0, .int .i64 0, .int .i64 0] 69 (0, 0))) := ⟨h4_⟩
        have f4 : Aside0 (w.heap.size ≤ ai) := ⟨h5_⟩
        have f5 : Aside0 (w0.heap.size ≤ ai) := ⟨h6_⟩
        have fd : Aside0 (g ≠ ai) := ⟨h7_⟩
        have d4 : Aside0 (ai ≠ g) := ⟨h8_⟩
        have eh : Aside0 (bt ≠ ai) := ⟨h9_⟩
        have ev : Aside0 (ai ≠ bt) := ⟨h10_⟩
        have ed : Aside0 (bp ≠ ai) := ⟨h11_⟩
        have ew : Aside0 (ai ≠ bp) := ⟨h12_⟩
        replace HI0 : Aside0 (IsS112 w0 f8 g ac gm) := ⟨h13_⟩
        replace HK : Aside0 (KeepBut w f8 g none) := ⟨h14_⟩
        replace HB : Aside0 (Below w0.heap.size w0 f8) := ⟨h15_⟩
        clear h0_ h1_ h2_ h3_ h4_ h5_ h6_ h7_ h8_ h9_ h10_ h11_ h12_ h13_ h14_ h15_
        have hHeld := trivial
        obtain ⟨sv, wn⟩ := HA_HO364.out
        clear HA_HO364
        subst wn
        refine norm_ (a' := ?_) ?_ ?_
        rotate_left
        ·simp only [putAll, Act.put, List.setIfInBounds_toArray, List.set_cons_zero, List.set_cons_succ]
         rfl
        refine two_ (i := 4) (j := 6) (Ni := some 16) (Nj := some 18) (tl_ 13 2111) (tl_ 13 2159) rfl rfl rfl rfl (two_of HT_.out (g1_)) (by decide) (by decide) (fun K hK => ?_) (fun K hK => ?_)
        ·skip
         (have wk : 0 ≤ (b3 : Int) := of_decide_eq_true (g0_); have wl : b3 < (ap.length : Int) := of_decide_eq_true (g0_); obtain ⟨af2, af3, wm⟩ := Kd.at_int (Kd.R_reads' b6.out).2.2 b3 wk wl; obtain rfl : adz_v363 = af2 := (by injection af3))
         refine value_ (w1 := ?_) (v := ?_) (by rfl) rfl ?_ ?_
         rotate_left 2
         ·go_simp
          constructor
          ·rfl
          ·rfl
         clear wm
         refine hK.out _ _ trivial (fun hHeld => ?_)
         clear hK K
         refine nm_ ?_
         exact norm_ (g6_) (hJ0_2_4_11 (.slice (some adz_v363) ap.length sv, adz_v363, ai) _ ⟨(uf2_ b6), ⟨_, rfl⟩, (uf0_ av), (uf0_ ar), (uf0_ ay), f4.out, f5.out, fd.out, d4.out, eh.out, ev.out, ed.out, ew.out, (bh), (ci), (ct)⟩)
        ·skip
         refine goes_ Try.func70 (g1_) rfl #[.pointer (some ⟨g, 0, none⟩), .int .i64 60] (by rfl) rfl rfl (g2_) ?_
         with_reducible refine (spec_l20Rd_pick.calls k g ac gm 60 cx hl w0 _ ?side1 ?side2 A7.out).mono ?_
         (case side1 => exact bh)
         (case side2 => exact ct)
         rintro e qp ⟨rfl, hi, hb, hk⟩
         refine ⟨_, rfl, ?_⟩
         replace av := kb_ hk av kv
         replace ar := kb_ hk ar kh
         replace b6 := Aside0.mk (Kd.R_mono (Kd.R_keep (IsS112.apart (show IsS112 w0 _ g ac gm from bh) (uf2_ b6) (by decide)) hk (fun _ h => h.2)) (fun _ h => h.1))
         replace ay := kb_ hk ay d4
         replace HK := Aside0.mk (KeepBut.trans (ci) hk (.inl rfl))
         replace HB := Aside0.mk (hb)
         replace HI0 := Aside0.mk (hi)
         (try clear hb)
         (try clear hk hi)
         refine hK.out _ _ trivial (fun hHeld => ?_)
         clear hK K
         refine nm_ ?_
         refine pw_ 7 19 (tl_ 13 2287) rfl rfl ?_
         refine pw_ 8 20 (tl_ 13 2543) rfl rfl ?_
         exact norm_ (g6_) (hJ0_2_6_11 (.slice (some adz_v363) ap.length sv, adz_v363, ai) _ ⟨(uf2_ b6), ⟨_, rfl⟩, (uf0_ av), (uf0_ ar), (uf0_ ay), f4.out, f5.out, fd.out, d4.out, eh.out, ev.out, ed.out, ew.out, (bh), (ci), (ct)⟩)
      ·skip
       rintro ⟨fs, adz_v363⟩ f8 ⟨h0_, h1_, h2_, h3_, h4_, h5_, h6_⟩
       have b6 : Aside0 (Kd.R (Kd.int .i64) 3 f8 w.heap.size (fun _ => True) fs ap) := ⟨h0_⟩
       have HA_HO364 : Aside0 (∃ c_, (fs : Value) = .slice (some adz_v363) ap.length c_) := ⟨h1_⟩
       replace av : Aside0 (f8.heap[bt]? = some (.cells #[.slice d8 ce.length d9, .slice ea cr.length eb, .slice e4 eo.length e5] 28 (0, 0))) := ⟨h2_⟩
       replace ar : Aside0 (f8.heap[bp]? = some (.cells #[.int .i64 0, .int .i64 0, .int .i64 0, .int .i64 0] 69 (0, 0))) := ⟨h3_⟩
       replace HI0 : Aside0 (IsS112 w0 f8 g ac hl) := ⟨h4_⟩
       replace HK : Aside0 (KeepBut w f8 g none) := ⟨h5_⟩
       replace HB : Aside0 (Below w0.heap.size w0 f8) := ⟨h6_⟩
       clear h0_ h1_ h2_ h3_ h4_ h5_ h6_
       have hHeld := trivial
       obtain ⟨sv, wn⟩ := HA_HO364.out
       clear HA_HO364
       subst wn
       refine norm_ (a' := ?_) ?_ ?_
       rotate_left
       ·simp only [putAll, Act.put, List.setIfInBounds_toArray, List.set_cons_zero, List.set_cons_succ]
        rfl
       refine two_ (i := 4) (j := 11) (Ni := some 16) (Nj := some 6) (tl_ 13 511) (tl_ 13 2543) rfl rfl rfl rfl (two_of HT_.out (g1_)) (by decide) (by decide) (fun K hK => ?_) (fun K hK => ?_)
       ·skip
        (have wk : 0 ≤ (b3 : Int) := of_decide_eq_true (g0_); have wl : b3 < (ap.length : Int) := of_decide_eq_true (g0_); obtain ⟨af2, af3, wm⟩ := Kd.at_int (Kd.R_reads' b6.out).2.2 b3 wk wl; obtain rfl : adz_v363 = af2 := (by injection af3))
        refine value_ (w1 := ?_) (v := ?_) (by rfl) rfl ?_ ?_
        rotate_left 2
        ·go_simp
         constructor
         ·rfl
         ·rfl
        clear wm
        refine hK.out _ _ trivial (fun hHeld => ?_)
        clear hK K
        refine nm_ ?_
        refine pw_ 9 21 (tl_ 13 1023) rfl rfl ?_
        refine pw_ 10 22 (tl_ 13 2047) rfl rfl ?_
        exact norm_ (g6_) (hJ0_2_4_6 (.slice (some adz_v363) ap.length sv, adz_v363) _ ⟨(uf2_ b6), ⟨_, rfl⟩, (uf0_ av), (uf0_ ar), (bh), (ci), (ct)⟩)
       ·skip
        refine bs_ (N := 6) #[.int .i64 0, .int .i64 0, .int .i64 0, .int .i64 0] 69 ?_
        intro ai hg qp hbox hb
        replace b6 := Aside0.mk (Kd.R_below (uf2_ b6) hb)
        replace HB := Aside0.mk (below_step (ct) hb)
        have ay := Aside0.mk (hbox)
        have f4 := Aside0.mk ((g9_ : w.heap.size ≤ ai))
        have f5 := Aside0.mk ((Nat.le_trans HW0.out (g9_ : w.heap.size ≤ ai) : w0.heap.size ≤ ai))
        replace HK := Aside0.mk (KeepBut.trans (ci) (KeepBut.of_below hb g none) (.inl rfl))
        have eh := Aside0.mk ((g22_ : bt ≠ ai))
        have ev := Aside0.mk ((g23_ : ai ≠ bt))
        replace av := bb_ av hb
        have ed := Aside0.mk ((g31_ : bp ≠ ai))
        have ew := Aside0.mk ((g32_ : ai ≠ bp))
        replace ar := bb_ ar hb
        have fd := Aside0.mk ((by rw [hg]; exact Nat.ne_of_lt (IsS112.lt (show IsS112 w0 _ g ac hl from bh)) : g ≠ ai))
        have d4 := Aside0.mk ((by rw [hg]; exact Nat.ne_of_gt (IsS112.lt (show IsS112 w0 _ g ac hl from bh)) : ai ≠ g))
        replace HI0 := Aside0.mk (IsS112.below (bh) hb)
        clear hb hbox hg
        refine hK.out _ _ trivial (fun hHeld => ?_)
        clear hK K
        refine nm_ ?_
        exact norm_ (g6_) (hJ0_2_6_11 (.slice (some adz_v363) ap.length sv, adz_v363, ai) _ ⟨(uf2_ b6), ⟨_, rfl⟩, (uf0_ av), (uf0_ ar), (uf0_ ay), f4.out, f5.out, fd.out, d4.out, eh.out, ev.out, ed.out, ew.out, (bh), (ci), (ct)⟩)
     ·skip
      rintro ⟨fs, adz_v363⟩ jn ⟨h0_, h1_, h2_, h3_, h4_, h5_, h6_⟩
      have b6 : Aside0 (Kd.R (Kd.int .i64) 3 jn w.heap.size (fun _ => True) fs ap) := ⟨h0_⟩
      have HA_HO364 : Aside0 (∃ c_, (fs : Value) = .slice (some adz_v363) ap.length c_) := ⟨h1_⟩
      replace av : Aside0 (jn.heap[bt]? = some (.cells #[.slice d8 ce.length d9, .slice ea cr.length eb, .slice e4 eo.length e5] 28 (0, 0))) := ⟨h2_⟩
      replace ar : Aside0 (jn.heap[bp]? = some (.cells #[.int .i64 0, .int .i64 0, .int .i64 0, .int .i64 0] 69 (0, 0))) := ⟨h3_⟩
      replace HI0 : Aside0 (IsS112 w0 jn g ac gm) := ⟨h4_⟩
      replace HK : Aside0 (KeepBut w jn g none) := ⟨h5_⟩
      replace HB : Aside0 (Below w0.heap.size w0 jn) := ⟨h6_⟩
      clear h0_ h1_ h2_ h3_ h4_ h5_ h6_
      have hHeld := trivial
      obtain ⟨gn, su⟩ := HA_HO364.out
      clear HA_HO364
      subst su
      refine norm_ (a' := ?_) ?_ ?_
      rotate_left
      ·simp only [putAll, Act.put, List.setIfInBounds_toArray, List.set_cons_zero, List.set_cons_succ]
       rfl
      refine two_ (i := 6) (j := 11) (Ni := some 18) (Nj := some 6) (tl_ 13 127) (tl_ 13 2111) rfl rfl rfl rfl (two_of HT_.out (g1_)) (by decide) (by decide) (fun K hK => ?_) (fun K hK => ?_)
      ·skip
       refine goes_ Try.func70 (g1_) rfl #[.pointer (some ⟨g, 0, none⟩), .int .i64 60] (by rfl) rfl rfl (g2_) ?_
       with_reducible refine (spec_l20Rd_pick.calls k g ac gm 60 cx hl w0 _ ?side1 ?side2 A7.out).mono ?_
       (case side1 => exact bh)
       (case side2 => exact ct)
       rintro e f9 ⟨rfl, hi, hb, hk⟩
       refine ⟨_, rfl, ?_⟩
       replace av := kb_ hk av kv
       replace ar := kb_ hk ar kh
       replace b6 := Aside0.mk (Kd.R_mono (Kd.R_keep (IsS112.apart (show IsS112 w0 _ g ac gm from bh) (uf2_ b6) (by decide)) hk (fun _ h => h.2)) (fun _ h => h.1))
       replace HK := Aside0.mk (KeepBut.trans (ci) hk (.inl rfl))
       replace HB := Aside0.mk (hb)
       replace HI0 := Aside0.mk (hi)
       (try clear hb)
       (try clear hk hi)
       refine hK.out _ _ trivial (fun hHeld => ?_)
       clear hK K
       refine nm_ ?_
       refine pw_ 7 19 (tl_ 13 255) rfl rfl ?_
       refine pw_ 8 20 (tl_ 13 511) rfl rfl ?_
       refine pw_ 9 21 (tl_ 13 1023) rfl rfl ?_
       refine pw_ 10 22 (tl_ 13 2047) rfl rfl ?_
       exact norm_ (g6_) (hJ0_2_4_6 (.slice (some adz_v363) ap.length gn, adz_v363) _ ⟨(uf2_ b6), ⟨_, rfl⟩, (uf0_ av), (uf0_ ar), (bh), (ci), (ct)⟩)
      ·skip
       refine bs_ (N := 6) #[.int .i64 0, .int .i64 0, .int .i64 0, .int .i64 0] 69 ?_
       intro ai hg f9 hbox hb
       replace b6 := Aside0.mk (Kd.R_below (uf2_ b6) hb)
       replace HB := Aside0.mk (below_step (ct) hb)
       have ay := Aside0.mk (hbox)
       have f4 := Aside0.mk ((g9_ : w.heap.size ≤ ai))
       have f5 := Aside0.mk ((Nat.le_trans HW0.out (g9_ : w.heap.size ≤ ai) : w0.heap.size ≤ ai))
       replace HK := Aside0.mk (KeepBut.trans (ci) (KeepBut.of_below hb g none) (.inl rfl))
       have eh := Aside0.mk ((g22_ : bt ≠ ai))
       have ev := Aside0.mk ((g23_ : ai ≠ bt))
       replace av := bb_ av hb
       have ed := Aside0.mk ((g31_ : bp ≠ ai))
       have ew := Aside0.mk ((g32_ : ai ≠ bp))
       replace ar := bb_ ar hb
       have fd := Aside0.mk ((by rw [hg]; exact Nat.ne_of_lt (IsS112.lt (show IsS112 w0 _ g ac gm from bh)) : g ≠ ai))
       have d4 := Aside0.mk ((by rw [hg]; exact Nat.ne_of_gt (IsS112.lt (show IsS112 w0 _ g ac gm from bh)) : ai ≠ g))
       replace HI0 := Aside0.mk (IsS112.below (bh) hb)
       clear hb hbox hg
       refine hK.out _ _ trivial (fun hHeld => ?_)
       clear hK K
       refine nm_ ?_
       exact norm_ (g6_) (hJ0_2_4_11 (.slice (some adz_v363) ap.length gn, adz_v363, ai) _ ⟨(uf2_ b6), ⟨_, rfl⟩, (uf0_ av), (uf0_ ar), (uf0_ ay), f4.out, f5.out, fd.out, d4.out, eh.out, ev.out, ed.out, ew.out, (bh), (ci), (ct)⟩)
    ·skip
     rintro ⟨fs, adz_v363, ai⟩ f9 ⟨h0_, h1_, h2_, h3_, h4_, h5_, h6_, h7_, h8_, h9_, h10_, h11_, h12_, h13_, h14_, h15_⟩
     have b6 : Aside0 (Kd.R (Kd.int .i64) 3 f9 w.heap.size (fun _ => True) fs ap) := ⟨h0_⟩
     have HA_HO364 : Aside0 (∃ c_, (fs : Value) = .slice (some adz_v363) ap.length c_) := ⟨h1_⟩
     replace av : Aside0 (f9.heap[bt]? = some (.cells #[.slice d8 ce.length d9, .slice ea cr.length eb, .slice e4 eo.length e5] 28 (0, 0))) := ⟨h2_⟩
     replace ar : Aside0 (f9.heap[bp]? = some (.cells #[.int .i64 0, .int .i64 0, .int .i64 0, .int .i64 0] 69 (0, 0))) := ⟨h3_⟩
     have ay : Aside0 (f9.heap[ai]? = some (.cells #[.int .i64 0, .int .i64 0, .int .i64 0, .int .i64 0] 69 (0, 0))) := ⟨h4_⟩
     have f4 : Aside0 (w.heap.size ≤ ai) := ⟨h5_⟩
     have f5 : Aside0 (w0.heap.size ≤ ai) := ⟨h6_⟩
     have fd : Aside0 (g ≠ ai) := ⟨h7_⟩
     have d4 : Aside0 (ai ≠ g) := ⟨h8_⟩
     have eh : Aside0 (bt ≠ ai) := ⟨h9_⟩
     have ev : Aside0 (ai ≠ bt) := ⟨h10_⟩
     have ed : Aside0 (bp ≠ ai) := ⟨h11_⟩
     have ew : Aside0 (ai ≠ bp) := ⟨h12_⟩
     replace HI0 : Aside0 (IsS112 w0 f9 g ac hl) := ⟨h13_⟩
     replace HK : Aside0 (KeepBut w f9 g none) := ⟨h14_⟩
     replace HB : Aside0 (Below w0.heap.size w0 f9) := ⟨h15_⟩
     clear h0_ h1_ h2_ h3_ h4_ h5_ h6_ h7_ h8_ h9_ h10_ h11_ h12_ h13_ h14_ h15_
     have hHeld := trivial
     obtain ⟨en, af1⟩ := HA_HO364.out
     clear HA_HO364
     subst af1
     refine norm_ (a' := ?_) ?_ ?_
     rotate_left
     ·simp only [putAll, Act.put, List.setIfInBounds_toArray, List.set_cons_zero, List.set_cons_succ]
      rfl
     refine one_ (i := 4) (N := some 16) (tl_ 13 2559) rfl rfl (one_of HT_.out (g1_)) (by decide) (fun K hK => ?_)
     (have wk : 0 ≤ (b3 : Int) := of_decide_eq_true (g0_); have wl : b3 < (ap.length : Int) := of_decide_eq_true (g0_); obtain ⟨af2, af3, wm⟩ := Kd.at_int (Kd.R_reads' b6.out).2.2 b3 wk wl; obtain rfl : adz_v363 = af2 := (by injection af3))
     refine value_ (w1 := ?_) (v := ?_) (by rfl) rfl ?_ ?_
     rotate_left 2
     ·go_simp
      constructor
      ·rfl
      ·rfl
     clear wm
     refine hK.out _ _ trivial (fun hHeld => ?_)
     clear hK K
     refine nm_ ?_
     refine pw_ 9 21 (tl_ 13 3071) rfl rfl ?_
     refine pw_ 10 22 (tl_ 13 4095) rfl rfl ?_
     exact norm_ (g6_) (hJ0_2_4_6_11 (.slice (some adz_v363) ap.length en, adz_v363, ai) _ ⟨(uf2_ b6), ⟨_, rfl⟩, (uf0_ av), (uf0_ ar), (uf0_ ay), f4.out, f5.out, fd.out, d4.out, eh.out, ev.out, ed.out, ew.out, (bh), (ci), (ct)⟩)
   ·skip
    rintro ⟨fs, adz_v363, ai⟩ f8 ⟨h0_, h1_, h2_, h3_, h4_, h5_, h6_, h7_, h8_, h9_, h10_, h11_, h12_, h13_, h14_, h15_⟩
    have b6 : Aside0 (Kd.R (Kd.int .i64) 3 f8 w.heap.size (fun _ => True) fs ap) := ⟨h0_⟩
    have HA_HO364 : Aside0 (∃ c_, (fs : Value) = .slice (some adz_v363) ap.length c_) := ⟨h1_⟩
    replace av : Aside0 (f8.heap[bt]? = some (.cells #[.slice d8 ce.length d9, .slice ea cr.length eb, .slice e4 eo.length e5] 28 (0, 0))) := ⟨h2_⟩
    replace ar : Aside0 (f8.heap[bp]? = some (.cells #[.int .i64 0, .int .i64 0, .int .i64 0, .int .i64 0] 69 (0, 0))) := ⟨h3_⟩
    have ay : Aside0 (f8.heap[ai]? = some (.cells #[.int .i64 0, .int .i64 0, .int .i64 0, .int .i64 0] 69 (0, 0))) := ⟨h4_⟩
    have f4 : Aside0 (w.heap.size ≤ ai) := ⟨h5_⟩
    have f5 : Aside0 (w0.heap.size ≤ ai) := ⟨h6_⟩
    have fd : Aside0 (g ≠ ai) := ⟨h7_⟩
    have d4 : Aside0 (ai ≠ g) := ⟨h8_⟩
    have eh : Aside0 (bt ≠ ai) := ⟨h9_⟩
    have ev : Aside0 (ai ≠ bt) := ⟨h10_⟩
    have ed : Aside0 (bp ≠ ai) := ⟨h11_⟩
    have ew : Aside0 (ai ≠ bp) := ⟨h12_⟩
    replace HI0 : Aside0 (IsS112 w0 f8 g ac gm) := ⟨h13_⟩
    replace HK : Aside0 (KeepBut w f8 g none) := ⟨h14_⟩
    replace HB : Aside0 (Below w0.heap.size w0 f8) := ⟨h15_⟩
    clear h0_ h1_ h2_ h3_ h4_ h5_ h6_ h7_ h8_ h9_ h10_ h11_ h12_ h13_ h14_ h15_
    have hHeld := trivial
    obtain ⟨sv, wn⟩ := HA_HO364.out
    clear HA_HO364
    subst wn
    refine norm_ (a' := ?_) ?_ ?_
    rotate_left
    ·simp only [putAll, Act.put, List.setIfInBounds_toArray, List.set_cons_zero, List.set_cons_succ]
     rfl
    refine one_ (i := 6) (N := some 18) (tl_ 13 2175) rfl rfl (one_of HT_.out (g1_)) (by decide) (fun K hK => ?_)
    refine goes_ Try.func70 (g1_) rfl #[.pointer (some ⟨g, 0, none⟩), .int .i64 60] (by rfl) rfl rfl (g2_) ?_
    with_reducible refine (spec_l20Rd_pick.calls k g ac gm 60 cx hl w0 _ ?side1 ?side2 A7.out).mono ?_
    (case side1 => exact bh)
    (case side2 => exact ct)
    rintro e qp ⟨rfl, hi, hb, hk⟩
    refine ⟨_, rfl, ?_⟩
    replace av := kb_ hk av kv
    replace ar := kb_ hk ar kh
    replace b6 := Aside0.mk (Kd.R_mono (Kd.R_keep (IsS112.apart (show IsS112 w0 _ g ac gm from bh) (uf2_ b6) (by decide)) hk (fun _ h => h.2)) (fun _ h => h.1))
    replace ay := kb_ hk ay d4
    replace HK := Aside0.mk (KeepBut.trans (ci) hk (.inl rfl))
    replace HB := Aside0.mk (hb)
    replace HI0 := Aside0.mk (hi)
    (try clear hb)
    (try clear hk hi)
    refine hK.out _ _ trivial (fun hHeld => ?_)
    clear hK K
    refine nm_ ?_
    refine pw_ 7 19 (tl_ 13 2303) rfl rfl ?_
    refine pw_ 8 20 (tl_ 13 2559) rfl rfl ?_
    refine pw_ 9 21 (tl_ 13 3071) rfl rfl ?_
    refine pw_ 10 22 (tl_ 13 4095) rfl rfl ?_
    exact norm_ (g6_) (hJ0_2_4_6_11 (.slice (some adz_v363) ap.length sv, adz_v363, ai) _ ⟨(uf2_ b6), ⟨_, rfl⟩, (uf0_ av), (uf0_ ar), (uf0_ ay), f4.out, f5.out, fd.out, d4.out, eh.out, ev.out, ed.out, ew.out, (bh), (ci), (ct)⟩)
  ·skip
   rintro ⟨fs, adz_v363⟩ f8 ⟨h0_, h1_, h2_, h3_, h4_, h5_, h6_⟩
   have b6 : Aside0 (Kd.R (Kd.int .i64) 3 f8 w.heap.size (fun _ => True) fs ap) := ⟨h0_⟩
   have HA_HO364 : Aside0 (∃ c_, (fs : Value) = .slice (some adz_v363) ap.length c_) := ⟨h1_⟩
   replace av : Aside0 (f8.heap[bt]? = some (.cells #[.slice d8 ce.length d9, .slice ea cr.length eb, .slice e4 eo.length e5] 28 (0, 0))) := ⟨h2_⟩
   replace ar : Aside0 (f8.heap[bp]? = some (.cells #[.int .i64 0, .int .i64 0, .int .i64 0, .int .i64 0] 69 (0, 0))) := ⟨h3_⟩
   replace HI0 : Aside0 (IsS112 w0 f8 g ac hl) := ⟨h4_⟩
   replace HK : Aside0 (KeepBut w f8 g none) := ⟨h5_⟩
   replace HB : Aside0 (Below w0.heap.size w0 f8) := ⟨h6_⟩
   clear h0_ h1_ h2_ h3_ h4_ h5_ h6_
   have hHeld := trivial
   obtain ⟨sv, wn⟩ := HA_HO364.out
   clear HA_HO364
   subst wn
   refine norm_ (a' := ?_) ?_ ?_
   rotate_left
   ·simp only [putAll, Act.put, List.setIfInBounds_toArray, List.set_cons_zero, List.set_cons_succ]
    rfl
   refine one_ (i := 11) (N := some 6) (tl_ 13 4095) rfl rfl (one_of HT_.out (g1_)) (by decide) (fun K hK => ?_)
   refine bs_ (N := 6) #[.int .i64 0, .int .i64 0, .int .i64 0, .int .i64 0] 69 ?_
   intro ai hg qp hbox hb
   replace b6 := Aside0.mk (Kd.R_below (uf2_ b6) hb)
   replace HB := Aside0.mk (below_step (ct) hb)
   have ay := Aside0.mk (hbox)
   have f4 := Aside0.mk ((g9_ : w.heap.size ≤ ai))
   have f5 := Aside0.mk ((Nat.le_trans HW0.out (g9_ : w.heap.size ≤ ai) : w0.heap.size ≤ ai))
   replace HK := Aside0.mk (KeepBut.trans (ci) (KeepBut.of_below hb g none) (.inl rfl))
   have eh := Aside0.mk ((g22_ : bt ≠ ai))
   have ev := Aside0.mk ((g23_ : ai ≠ bt))
   replace av := bb_ av hb
   have ed := Aside0.mk ((g31_ : bp ≠ ai))
   have ew := Aside0.mk ((g32_ : ai ≠ bp))
   replace ar := bb_ ar hb
   have fd := Aside0.mk ((by rw [hg]; exact Nat.ne_of_lt (IsS112.lt (show IsS112 w0 _ g ac hl from bh)) : g ≠ ai))
   have d4 := Aside0.mk ((by rw [hg]; exact Nat.ne_of_gt (IsS112.lt (show IsS112 w0 _ g ac hl from bh)) : ai ≠ g))
   replace HI0 := Aside0.mk (IsS112.below (bh) hb)
   clear hb hbox hg
   refine hK.out _ _ trivial (fun hHeld => ?_)
   clear hK K
   refine nm_ ?_
   exact norm_ (g6_) (hJ0_2_4_6_11 (.slice (some adz_v363) ap.length sv, adz_v363, ai) _ ⟨(uf2_ b6), ⟨_, rfl⟩, (uf0_ av), (uf0_ ar), (uf0_ ay), f4.out, f5.out, fd.out, d4.out, eh.out, ev.out, ed.out, ew.out, (bh), (ci), (ct)⟩)
 rintro ⟨fs, adz_v363, ai⟩ f9 ⟨h0_, h1_, h2_, h3_, h4_, h5_, h6_, h7_, h8_, h9_, h10_, h11_, h12_, h13_, h14_, h15_⟩
 have b6 : Aside0 (Kd.R (Kd.int .i64) 3 f9 w.heap.size (fun _ => True) fs ap) := ⟨h0_⟩
 have HA_HO364 : Aside0 (∃ c_, (fs : Value) = .slice (some adz_v363) ap.length c_) := ⟨h1_⟩
 replace av : Aside0 (f9.heap[bt]? = some (.cells #[.slice d8 ce.length d9, .slice ea cr.length eb, .slice e4 eo.length e5] 28 (0, 0))) := ⟨h2_⟩
 replace ar : Aside0 (f9.heap[bp]? = some (.cells #[.int .i64 0, .int .i64 0, .int .i64 0, .int .i64 0] 69 (0, 0))) := ⟨h3_⟩
 have ay : Aside0 (f9.heap[ai]? = some (.cells #[.int .i64 0, .int .i64 0, .int .i64 0, .int .i64 0] 69 (0, 0))) := ⟨h4_⟩
 have f4 : Aside0 (w.heap.size ≤ ai) := ⟨h5_⟩
 have f5 : Aside0 (w0.heap.size ≤ ai) := ⟨h6_⟩
 have fd : Aside0 (g ≠ ai) := ⟨h7_⟩
 have d4 : Aside0 (ai ≠ g) := ⟨h8_⟩
 have eh : Aside0 (bt ≠ ai) := ⟨h9_⟩
 have ev : Aside0 (ai ≠ bt) := ⟨h10_⟩
 have ed : Aside0 (bp ≠ ai) := ⟨h11_⟩
 have ew : Aside0 (ai ≠ bp) := ⟨h12_⟩
 replace HI0 : Aside0 (IsS112 w0 f9 g ac hl) := ⟨h13_⟩
 replace HK : Aside0 (KeepBut w f9 g none) := ⟨h14_⟩
 replace HB : Aside0 (Below w0.heap.size w0 f9) := ⟨h15_⟩
 clear h0_ h1_ h2_ h3_ h4_ h5_ h6_ h7_ h8_ h9_ h10_ h11_ h12_ h13_ h14_ h15_
 have hHeld := trivial
 obtain ⟨en, af1⟩ := HA_HO364.out
 clear HA_HO364
 subst af1
 refine norm_ (a' := ?_) ?_ ?_
 rotate_left
 ·simp only [putAll, Act.put, List.setIfInBounds_toArray, List.set_cons_zero, List.set_cons_succ]
  rfl
 refine one_ (i := 12) (N := none) (tl_ 13 8191) rfl rfl (one_of HT_.out (g1_)) (by decide) (fun K hK => ?_)
 have he8 : f9.cell? ⟨ai, 0, none⟩ = some (.int .i64 0) := (blk_cell ay.out 0).trans rfl
 have he9 := blk_frozen ay.out 0
 have hf0 := eh.out
 have hf1 := ed.out
 have hf2 := ev.out
 have hf3 := ew.out
 have hf5 : f9.cell? ⟨ai, 1, none⟩ = some (.int .i64 0) := (blk_cell ay.out 1).trans rfl
 have hf6 := blk_frozen ay.out 1
 have hf7 := eh.out
 have hf8 := ed.out
 have hf9 := ev.out
 have hg0 := ew.out
 have hg3 : f9.cell? ⟨ai, 2, none⟩ = some (.int .i64 0) := (blk_cell ay.out 2).trans rfl
 have hg4 := blk_frozen ay.out 2
 have hg5 := eh.out
 have hg6 := ed.out
 have hg7 := ev.out
 have hg8 := ew.out
 have hg9 : f9.cell? ⟨ai, 3, none⟩ = some (.int .i64 0) := (blk_cell ay.out 3).trans rfl
 have hh0 := blk_frozen ay.out 3
 have hh1 := eh.out
 have hh2 := ed.out
 have hh3 := ev.out
 have hh4 := ew.out
 refine skip_ (w1 := ?_) (by rfl) rfl ?_ ?_
 rotate_left
 ·go_simp
  rfl
 refine hK.out _ _ trivial (fun hHeld => ?_)
 clear hK K
 refine done_ (done_of HT_.out (g1_)) ?_
 have fb0 := ev.out
 have fb1 := eh.out
 have bh0 := ew.out
 have bh1 := ed.out
 have bx3 := d4.out
 have bx4 := fd.out
 obtain ⟨ag9, ah0, bh2, dq2, ah1, ah2, bh3, dq3⟩ := blk4_ ay
 go_upto_block 0 with (fail)
 go_cut [] (fun wc => ∃ (kq : Nat) (bq5 : Int) (n9 : Int) (rk : Int) (zx : Int), Aside0 (spec_l20Deed.j0 kq ac bq5 (wrap64 ((rd ap b3) + (wrap64 ((wrap64 (Int.tdiv cx 59)) * 5)))) n9 rk zx = some (r1, r2, r3, r4, r5)) ∧ Aside0 (kq ≤ k) ∧ Aside0 (wc.heap[bt]? = some (.cells #[(.slice d8 ce.length d9), (.slice ea cr.length eb), (.slice e4 eo.length e5)] 28 (0, 0))) ∧ Aside0 (wc.heap[bp]? = some (.cells #[.int .i64 0, .int .i64 0, .int .i64 0, .int .i64 0] 69 (0, 0))) ∧ Aside0 (wc.heap[ai]? = some (.cells #[.int .i64 (wrap64 ((rd ap b3) + (wrap64 ((wrap64 (Int.tdiv cx 59)) * 5)))), .int .i64 n9, .int .i64 rk, .int .i64 zx] 69 (0, 0))) ∧ Aside0 (IsS112 w0 wc g ac bq5) ∧ Aside0 (KeepBut w wc g none) ∧ Aside0 (Below w0.heap.size w0 wc))
 case first =>
  have H := HC8.out
  clear HC8
  by_cases jp : (wrap64 ((rd ap b3) + (wrap64 ((wrap64 (Int.tdiv cx 59)) * 5)))) = 0
  ·rw [if_pos jp] at H
   have qu : ((wrap64 ((rd ap b3) + (wrap64 ((wrap64 (Int.tdiv cx 59)) * 5)))) == 0) = true := beq_iff_eq.mpr jp
   have cl7 : ((wrap64 ((rd ap b3) + (wrap64 ((wrap64 (Int.tdiv cx 59)) * 5)))) != 0) = false := bne_eq_false_iff_eq.mpr jp
   clear jp
   (first | rw [qu] | (simp only [i64_w, i32_w]; rw [qu]) | skip)
   replace H := Option.bind_eq_some_iff.mp H
   obtain ⟨⟨ba0, cl8⟩, dq4, H⟩ := H
   try dsimp only at H
   have A32 := Aside0.mk dq4
   clear dq4
   replace H := Option.bind_eq_some_iff.mp H
   obtain ⟨⟨dq5, dq6⟩, dq7, H⟩ := H
   try dsimp only at H
   have A33 := Aside0.mk dq7
   clear dq7
   have H' := Aside0.mk H
   clear H
   go_wp2_with (first | ((with_reducible refine gate_callee (f := 70) rfl ?_); refine goesL_ (some 29) rfl rfl Try.func70 k_ rfl #[.pointer (some ⟨g, 0, none⟩), .int .i64 ji3] rfl (g98_) ?_; (with_reducible refine (spec_l20Rd_pick.calls k g ac hl ji3 ba0 cl8 w0 _ ?side1 ?side2 A32.out).mono ?_); (case side1 => exact bh); (case side2 => exact ct); rintro e w34 ⟨rfl, hi, hb, hk⟩; refine ⟨_, rfl, ?_⟩; replace av := Aside0.mk (KeepBut.blk hk (g' := bt) (o := .cells #[.slice d8 ce.length d9, .slice ea cr.length eb, .slice e4 eo.length e5] 28 (0, 0)) (g99_) kv.out (by simp)); replace ar := Aside0.mk (KeepBut.blk hk (g' := bp) (o := .cells #[.int .i64 0, .int .i64 0, .int .i64 0, .int .i64 0] 69 (0, 0)) (g100_) kh.out (by simp)); replace b6 := Aside0.mk (Kd.R_mono (Kd.R_keep (IsS112.apart (show IsS112 w0 _ g ac hl from bh) (by (with_reducible repeat (first | apply Kd.R_alloc | apply Kd.R_drewN | apply Kd.R_drew)); exact (Kd.R_mono (Kd.R_far (p := ⟨ai, 3, none⟩) (Kd.R_far (p := ⟨ai, 2, none⟩) (Kd.R_far (p := ⟨ai, 1, none⟩) (Kd.R_far (p := ⟨ai, 0, none⟩) (Kd.R_types b6.out ay.out (by decide)) (fun _ hk => hk.2) (.int .i64 (wrap64 ((rd ap b3) + (wrap64 ((wrap64 (Int.tdiv cx 59)) * 5)))))) (fun _ hk => hk.2) (.int .i64 0)) (fun _ hk => hk.2) (.int .i64 0)) (fun _ hk => hk.2) (.int .i64 0)) (fun _ h_ => h_.1))) (by decide)) hk (fun _ h => h.2)) (fun _ h => h.1)); replace ay := Aside0.mk (KeepBut.blk hk (g' := ai) (o := .cells #[.int .i64 (wrap64 ((rd ap b3) + (wrap64 ((wrap64 (Int.tdiv cx 59)) * 5)))), .int .i64 0, .int .i64 0, .int .i64 0] 69 (0, 0)) (g101_) d4.out (by simp)); replace HK := Aside0.mk (KeepBut.trans (ci) hk (.inl rfl)); replace HB := Aside0.mk (hb); replace HI0 := Aside0.mk (hi); (try clear hb); (try clear hk hi); have hh5 := ev.out; have hh6 := eh.out; have dh0 := ew.out; have dh1 := ed.out; have dh2 := d4.out; have dh3 := fd.out; obtain ⟨at1, at2, cl9, dq8, at3, at4, cm0, dq9⟩ := blk4_ ay) | ((with_reducible refine gate_callee (f := 70) rfl ?_); refine goesL_ (some 32) rfl rfl Try.func70 k_ rfl #[.pointer (some ⟨g, 0, none⟩), .int .i64 21] rfl (g2_) ?_; (with_reducible refine (spec_l20Rd_pick.calls k g ac cl8 21 dq5 dq6 w0 _ ?side1 ?side2 A33.out).mono ?_); (case side1 => exact bh); (case side2 => exact ct); rintro e w39 ⟨rfl, hi, hb, hk⟩; refine ⟨_, rfl, ?_⟩; replace av := Aside0.mk (KeepBut.blk hk (g' := bt) (o := .cells #[.slice d8 ce.length d9, .slice ea cr.length eb, .slice e4 eo.length e5] 28 (0, 0)) (g51_) kv.out (by simp)); replace ar := Aside0.mk (KeepBut.blk hk (g' := bp) (o := .cells #[.int .i64 0, .int .i64 0, .int .i64 0, .int .i64 0] 69 (0, 0)) (g52_) kh.out (by simp)); replace b6 := Aside0.mk (Kd.R_mono (Kd.R_keep (IsS112.apart (show IsS112 w0 _ g ac cl8 from bh) (by (with_reducible repeat (first | apply Kd.R_alloc | apply Kd.R_drewN | apply Kd.R_drew)); exact (Kd.R_mono (Kd.R_far (p := ⟨ai, 1, none⟩) (Kd.R_types b6.out ay.out (by decide)) (fun _ hk => hk.2) (.int .i64 ba0)) (fun _ h_ => h_.1))) (by decide)) hk (fun _ h => h.2)) (fun _ h => h.1)); replace ay := Aside0.mk (KeepBut.blk hk (g' := ai) (o := .cells #[.int .i64 (wrap64 ((rd ap b3) + (wrap64 ((wrap64 (Int.tdiv cx 59)) * 5)))), .int .i64 ba0, .int .i64 0, .int .i64 0] 69 (0, 0)) (by (with_reducible repeat (first | refine blk_drewN ?_ _ | refine blk_drew ?_ | refine blk_alloc ?_ _)); refine blk_put (cs := #[.int .i64 (wrap64 ((rd ap b3) + (wrap64 ((wrap64 (Int.tdiv cx 59)) * 5)))), .int .i64 0, .int .i64 0, .int .i64 0]) ?_ 1 _ rfl; exact uf0_ ay) d4.out (by simp)); replace HK := Aside0.mk (KeepBut.trans (ci) hk (.inl rfl)); replace HB := Aside0.mk (hb); replace HI0 := Aside0.mk (hi); (try clear hb); (try clear hk hi); obtain ⟨dr0, dr1, dr2, dr3, dr4, dr5, dr6, dr7⟩ := blk4_ ay))
   go_meet
   case rel => exact ⟨_, (dq6), (ba0), (0), (dq5), H', ⟨g10_⟩, ⟨g51_⟩, ⟨g52_⟩, ⟨by (with_reducible repeat (first | refine blk_drewN ?_ _ | refine blk_drew ?_ | refine blk_alloc ?_ _)); refine blk_put (cs := #[.int .i64 (wrap64 ((rd ap b3) + (wrap64 ((wrap64 (Int.tdiv cx 59)) * 5)))), .int .i64 ba0, .int .i64 0, .int .i64 0]) ?_ 3 _ rfl; exact uf0_ ay⟩, ⟨bh⟩, ⟨ci⟩, ⟨ct⟩⟩
  ·rw [if_neg jp] at H
   have qu : ((wrap64 ((rd ap b3) + (wrap64 ((wrap64 (Int.tdiv cx 59)) * 5)))) == 0) = false := beq_eq_false_iff_ne.mpr jp
   have cl7 : ((wrap64 ((rd ap b3) + (wrap64 ((wrap64 (Int.tdiv cx 59)) * 5)))) != 0) = true := bne_iff_ne.mpr jp
   (first | rw [qu] | (simp only [i64_w, i32_w]; rw [qu]) | skip)
   by_cases h9 : (wrap64 ((rd ap b3) + (wrap64 ((wrap64 (Int.tdiv cx 59)) * 5)))) = 1
   ·rw [if_pos h9] at H
    have yo : ((wrap64 ((rd ap b3) + (wrap64 ((wrap64 (Int.tdiv cx 59)) * 5)))) == 1) = true := beq_iff_eq.mpr h9
    have aj8 : ((wrap64 ((rd ap b3) + (wrap64 ((wrap64 (Int.tdiv cx 59)) * 5)))) != 1) = false := bne_eq_false_iff_eq.mpr h9
    clear h9
    replace H := Option.bind_eq_some_iff.mp H
    obtain ⟨⟨af4, cm1⟩, dr8, H⟩ := H
    try dsimp only at H
    have A42 := Aside0.mk dr8
    clear dr8
    replace H := Option.bind_eq_some_iff.mp H
    obtain ⟨⟨ba1, cm2⟩, dr9, H⟩ := H
    try dsimp only at H
    have A43 := Aside0.mk dr9
    clear dr9
    replace H := Option.bind_eq_some_iff.mp H
    obtain ⟨⟨ds0, ds1⟩, ds2, H⟩ := H
    try dsimp only at H
    have A44 := Aside0.mk ds2
    clear ds2
    have H' := Aside0.mk H
    clear H
    go_wp2_with (first | ((with_reducible refine gate_callee (f := 70) rfl ?_); refine goesL_ (some 38) rfl rfl Try.func70 k_ rfl #[.pointer (some ⟨g, 0, none⟩), .int .i64 ji3] rfl (g98_) ?_; (with_reducible refine (spec_l20Rd_pick.calls k g ac hl ji3 af4 cm1 w0 _ ?side1 ?side2 A42.out).mono ?_); (case side1 => exact bh); (case side2 => exact ct); rintro e w45 ⟨rfl, hi, hb, hk⟩; refine ⟨_, rfl, ?_⟩; replace av := Aside0.mk (KeepBut.blk hk (g' := bt) (o := .cells #[.slice d8 ce.length d9, .slice ea cr.length eb, .slice e4 eo.length e5] 28 (0, 0)) (g99_) kv.out (by simp)); replace ar := Aside0.mk (KeepBut.blk hk (g' := bp) (o := .cells #[.int .i64 0, .int .i64 0, .int .i64 0, .int .i64 0] 69 (0, 0)) (g100_) kh.out (by simp)); replace b6 := Aside0.mk (Kd.R_mono (Kd.R_keep (IsS112.apart (show IsS112 w0 _ g ac hl from bh) (by (with_reducible repeat (first | apply Kd.R_alloc | apply Kd.R_drewN | apply Kd.R_drew)); exact (Kd.R_mono (Kd.R_far (p := ⟨ai, 3, none⟩) (Kd.R_far (p := ⟨ai, 2, none⟩) (Kd.R_far (p := ⟨ai, 1, none⟩) (Kd.R_far (p := ⟨ai, 0, none⟩) (Kd.R_types b6.out ay.out (by decide)) (fun _ hk => hk.2) (.int .i64 (wrap64 ((rd ap b3) + (wrap64 ((wrap64 (Int.tdiv cx 59)) * 5)))))) (fun _ hk => hk.2) (.int .i64 0)) (fun _ hk => hk.2) (.int .i64 0)) (fun _ hk => hk.2) (.int .i64 0)) (fun _ h_ => h_.1))) (by decide)) hk (fun _ h => h.2)) (fun _ h => h.1)); replace ay := Aside0.mk (KeepBut.blk hk (g' := ai) (o := .cells #[.int .i64 (wrap64 ((rd ap b3) + (wrap64 ((wrap64 (Int.tdiv cx 59)) * 5)))), .int .i64 0, .int .i64 0, .int .i64 0] 69 (0, 0)) (g101_) d4.out (by simp)); replace HK := Aside0.mk (KeepBut.trans (ci) hk (.inl rfl)); replace HB := Aside0.mk (hb); replace HI0 := Aside0.mk (hi); (try clear hb); (try clear hk hi); have bz9 := ev.out; have ca0 := eh.out; have cf8 := ew.out; have cf9 := ed.out; have cx1 := d4.out; have cx2 := fd.out; obtain ⟨bj4, bj5, ds3, ds4, bj6, bj7, ds5, ds6⟩ := blk4_ ay) | ((with_reducible refine gate_callee (f := 70) rfl ?_); refine goesL_ (some 42) rfl rfl Try.func70 k_ rfl #[.pointer (some ⟨g, 0, none⟩), .int .i64 ji3] rfl (g98_) ?_; (with_reducible refine (spec_l20Rd_pick.calls k g ac cm1 ji3 ba1 cm2 w0 _ ?side1 ?side2 A43.out).mono ?_); (case side1 => exact bh); (case side2 => exact ct); rintro e w50 ⟨rfl, hi, hb, hk⟩; refine ⟨_, rfl, ?_⟩; replace av := Aside0.mk (KeepBut.blk hk (g' := bt) (o := .cells #[.slice d8 ce.length d9, .slice ea cr.length eb, .slice e4 eo.length e5] 28 (0, 0)) (g51_) kv.out (by simp)); replace ar := Aside0.mk (KeepBut.blk hk (g' := bp) (o := .cells #[.int .i64 0, .int .i64 0, .int .i64 0, .int .i64 0] 69 (0, 0)) (g52_) kh.out (by simp)); replace b6 := Aside0.mk (Kd.R_mono (Kd.R_keep (IsS112.apart (show IsS112 w0 _ g ac cm1 from bh) (by (with_reducible repeat (first | apply Kd.R_alloc | apply Kd.R_drewN | apply Kd.R_drew)); exact (Kd.R_mono (Kd.R_far (p := ⟨ai, 1, none⟩) (Kd.R_types b6.out ay.out (by decide)) (fun _ hk => hk.2) (.int .i64 af4)) (fun _ h_ => h_.1))) (by decide)) hk (fun _ h => h.2)) (fun _ h => h.1)); replace ay := Aside0.mk (KeepBut.blk hk (g' := ai) (o := .cells #[.int .i64 (wrap64 ((rd ap b3) + (wrap64 ((wrap64 (Int.tdiv cx 59)) * 5)))), .int .i64 af4, .int .i64 0, .int .i64 0] 69 (0, 0)) (by (with_reducible repeat (first | refine blk_drewN ?_ _ | refine blk_drew ?_ | refine blk_alloc ?_ _)); refine blk_put (cs := #[.int .i64 (wrap64 ((rd ap b3) + (wrap64 ((wrap64 (Int.tdiv cx 59)) * 5)))), .int .i64 0, .int .i64 0, .int .i64 0]) ?_ 1 _ rfl; exact uf0_ ay) d4.out (by simp)); replace HK := Aside0.mk (KeepBut.trans (ci) hk (.inl rfl)); replace HB := Aside0.mk (hb); replace HI0 := Aside0.mk (hi); (try clear hb); (try clear hk hi); obtain ⟨ai9, aj0, bo8, bo9, aj1, aj2, bp0, bp1⟩ := blk4_ ay) | ((with_reducible refine gate_callee (f := 70) rfl ?_); refine goesL_ (some 45) rfl rfl Try.func70 k_ rfl #[.pointer (some ⟨g, 0, none⟩), .int .i64 10] rfl (g2_) ?_; (with_reducible refine (spec_l20Rd_pick.calls k g ac cm2 10 ds0 ds1 w0 _ ?side1 ?side2 A44.out).mono ?_); (case side1 => exact bh); (case side2 => exact ct); rintro e w52 ⟨rfl, hi, hb, hk⟩; refine ⟨_, rfl, ?_⟩; replace av := Aside0.mk (KeepBut.blk hk (g' := bt) (o := .cells #[.slice d8 ce.length d9, .slice ea cr.length eb, .slice e4 eo.length e5] 28 (0, 0)) (g51_) kv.out (by simp)); replace ar := Aside0.mk (KeepBut.blk hk (g' := bp) (o := .cells #[.int .i64 0, .int .i64 0, .int .i64 0, .int .i64 0] 69 (0, 0)) (g52_) kh.out (by simp)); replace b6 := Aside0.mk (Kd.R_mono (Kd.R_keep (IsS112.apart (show IsS112 w0 _ g ac cm2 from bh) (by (with_reducible repeat (first | apply Kd.R_alloc | apply Kd.R_drewN | apply Kd.R_drew)); exact (Kd.R_mono (Kd.R_far (p := ⟨ai, 2, none⟩) (Kd.R_types b6.out ay.out (by decide)) (fun _ hk => hk.2) (.int .i64 ba1)) (fun _ h_ => h_.1))) (by decide)) hk (fun _ h => h.2)) (fun _ h => h.1)); replace ay := Aside0.mk (KeepBut.blk hk (g' := ai) (o := .cells #[.int .i64 (wrap64 ((rd ap b3) + (wrap64 ((wrap64 (Int.tdiv cx 59)) * 5)))), .int .i64 af4, .int .i64 ba1, .int .i64 0] 69 (0, 0)) (by (with_reducible repeat (first | refine blk_drewN ?_ _ | refine blk_drew ?_ | refine blk_alloc ?_ _)); refine blk_put (cs := #[.int .i64 (wrap64 ((rd ap b3) + (wrap64 ((wrap64 (Int.tdiv cx 59)) * 5)))), .int .i64 af4, .int .i64 0, .int .i64 0]) ?_ 2 _ rfl; exact uf0_ ay) d4.out (by simp)); replace HK := Aside0.mk (KeepBut.trans (ci) hk (.inl rfl)); replace HB := Aside0.mk (hb); replace HI0 := Aside0.mk (hi); (try clear hb); (try clear hk hi); obtain ⟨ds7, ds8, ds9, dt0, dt1, dt2, dt3, dt4⟩ := blk4_ ay))
    go_meet
    case rel => exact ⟨_, (ds1), (af4), (ba1), (ds0), H', ⟨g10_⟩, ⟨g51_⟩, ⟨g52_⟩, ⟨by (with_reducible repeat (first | refine blk_drewN ?_ _ | refine blk_drew ?_ | refine blk_alloc ?_ _)); refine blk_put (cs := #[.int .i64 (wrap64 ((rd ap b3) + (wrap64 ((wrap64 (Int.tdiv cx 59)) * 5)))), .int .i64 af4, .int .i64 ba1, .int .i64 0]) ?_ 3 _ rfl; exact uf0_ ay⟩, ⟨bh⟩, ⟨ci⟩, ⟨ct⟩⟩
   ·rw [if_neg h9] at H
    have yo : ((wrap64 ((rd ap b3) + (wrap64 ((wrap64 (Int.tdiv cx 59)) * 5)))) == 1) = false := beq_eq_false_iff_ne.mpr h9
    have aj8 : ((wrap64 ((rd ap b3) + (wrap64 ((wrap64 (Int.tdiv cx 59)) * 5)))) != 1) = true := bne_iff_ne.mpr h9
    have H' := Aside0.mk H
    clear H
    go_wp2
    go_meet
    case rel => exact ⟨_, (hl), (0), (0), (0), H', ⟨g10_⟩, ⟨g99_⟩, ⟨g100_⟩, ⟨g101_⟩, ⟨bh⟩, ⟨ci⟩, ⟨ct⟩⟩
 case rest =>
  clear HC8
  try clear c1
  try clear c2
  try clear p2
  try clear c3
  try clear p3
  try clear q3
  try clear hx3
  try clear c4
  try clear p6
  try clear c7
  try clear ij
  try clear mf
  try clear pt
  try clear jp
  try clear qu
  try clear cl7
  try clear m9
  try clear jq
  try clear p36
  try clear q36
  try clear fj9
  try clear c37
  try clear h9
  try clear yo
  try clear aj8
  try clear c46
  try clear c47
  try clear c48
  try clear ag9
  try clear ah0
  try clear bh2
  try clear dq2
  try clear at1
  try clear at2
  try clear cl9
  try clear dq8
  try clear dr0
  try clear dr1
  try clear dr2
  try clear dr3
  try clear bj4
  try clear bj5
  try clear ds3
  try clear ds4
  try clear ai9
  try clear aj0
  try clear bo8
  try clear bo9
  try clear ds7
  try clear ds8
  try clear ds9
  try clear dt0
  try clear ah1
  try clear ah2
  try clear bh3
  try clear dq3
  try clear at3
  try clear at4
  try clear cm0
  try clear dq9
  try clear dr4
  try clear dr5
  try clear dr6
  try clear dr7
  try clear bj6
  try clear bj7
  try clear ds5
  try clear ds6
  try clear aj1
  try clear aj2
  try clear bp0
  try clear bp1
  try clear dt1
  try clear dt2
  try clear dt3
  try clear dt4
  try clear wm
  try clear wk
  try clear wl
  obtain ⟨kq, bq5, n9, rk, zx, HA, HJ7, av, ar, ay, HI0, HK, HB⟩ := hcut
  cases kq with
  | zero => exact absurd HA.out (by simp [spec_l20Deed.j0])
  | succ kj7 =>
   have H := HA.out
   clear HA
   simp only [spec_l20Deed.j0] at H
   replace H := Option.bind_eq_some_iff.mp H
   obtain ⟨⟨dt5, cm3⟩, dt6, H⟩ := H
   try dsimp only at H
   have A54 := Aside0.mk dt6
   clear dt6
   have cm4 := Aside0.mk H
   clear H
   go_upto_if 48 with (first | ((with_reducible refine gate_callee (f := 106) rfl ?_); refine goesL_ (some 48) rfl rfl Try.func106 k_ rfl #[.pointer (some ⟨g, 0, none⟩), .int .i64 40] rfl (g2_) ?_; (with_reducible refine (spec_l20Rd_odd.calls kj7 g ac bq5 40 dt5 cm3 w0 _ ?side1 ?side2 A54.out).mono ?_); (case side1 => exact bh); (case side2 => exact ct); rintro e w56 ⟨rfl, hi, hb, hk⟩; refine ⟨_, rfl, ?_⟩; replace av := kb_ hk av kv; replace ar := kb_ hk ar kh; replace ay := kb_ hk ay d4; replace HK := Aside0.mk (KeepBut.trans (ci) hk (.inl rfl)); replace HB := Aside0.mk (hb); replace HI0 := Aside0.mk (hi); (try clear hb); (try clear hk hi)))
   (try simp only [Act.put, List.setIfInBounds_toArray, List.set_cons_zero, List.set_cons_succ])
   go_cut [] (fun wc => ∃ (kq : Nat) (ba2 : Int) (am1 : Int), Aside0 (spec_l20Deed.j1 kq ac ba2 (wrap64 ((rd ap b3) + (wrap64 ((wrap64 (Int.tdiv cx 59)) * 5)))) n9 rk am1 = some (r1, r2, r3, r4, r5)) ∧ Aside0 (kq ≤ kj7) ∧ Aside0 (wc.heap[bt]? = some (.cells #[(.slice d8 ce.length d9), (.slice ea cr.length eb), (.slice e4 eo.length e5)] 28 (0, 0))) ∧ Aside0 (wc.heap[bp]? = some (.cells #[.int .i64 0, .int .i64 0, .int .i64 0, .int .i64 0] 69 (0, 0))) ∧ Aside0 (wc.heap[ai]? = some (.cells #[.int .i64 (wrap64 ((rd ap b3) + (wrap64 ((wrap64 (Int.tdiv cx 59)) * 5)))), .int .i64 n9, .int .i64 rk, .int .i64 am1] 69 (0, 0))) ∧ Aside0 (IsS112 w0 wc g ac ba2) ∧ Aside0 (KeepBut w wc g none) ∧ Aside0 (Below w0.heap.size w0 wc))
   case first =>
    have H := cm4.out
    clear cm4
    by_cases qa : dt5 = true
    ·subst qa
     replace H := ifp_ H
     replace H := Option.bind_eq_some_iff.mp H
     obtain ⟨⟨dt7, dt8⟩, dt9, H⟩ := H
     try dsimp only at H
     have A58 := Aside0.mk dt9
     clear dt9
     have H' := Aside0.mk H
     clear H
     try go_wp2
     replace av := Aside0.mk (blk_drew av.out)
     replace ar := Aside0.mk (blk_drew ar.out)
     replace ay := Aside0.mk (blk_drew ay.out)
     replace HI0 := Aside0.mk (IsS112.drew HI0.out)
     replace HK := Aside0.mk (keep_drew HK.out)
     replace HB := Aside0.mk (below_drew1 HB.out)
     refine start_ (n := 8) (S := fun w' => w'.cell? ⟨ai, 0, none⟩ = some (.int .i64 (wrap64 ((rd ap b3) + (wrap64 ((wrap64 (Int.tdiv cx 59)) * 5))))) ∧ w'.cell? ⟨ai, 1, none⟩ = some (.int .i64 n9) ∧ w'.cell? ⟨ai, 2, none⟩ = some (.int .i64 rk) ∧ w'.cell? ⟨ai, 3, none⟩ = some (.int .i64 zx)) (ds := [7]) (tl_ 8 0) (g1_) rfl (g1_) ⟨(blk_cell ay.out 0).trans rfl, (blk_cell ay.out 1).trans rfl, (blk_cell ay.out 2).trans rfl, (blk_cell ay.out 3).trans rfl⟩ (fun hHeld => ?_); refine with_tabW spec_l20Deed.tab12 spec_l20Deed.bits12 (fun HT_ HW_ => ?_)
     generalize w56.drew = w59 at av ar ay HI0 HK HB hHeld ⊢
     refine pw_ 0 49 (tl_ 8 1) rfl rfl ?_
     refine pw_ 2 51 (tl_ 8 5) rfl rfl ?_
     refine tk1_ 1 50 (tl_ 8 7) rfl rfl hHeld ?_
     refine one_ (i := 3) (N := some 52) (tl_ 8 15) rfl rfl (one_of HT_.out (g1_)) (by decide) (fun K hK => ?_)
     refine goes_ Try.func70 (g1_) rfl #[.pointer (some ⟨g, 0, none⟩), .int .i64 120] (by rfl) rfl rfl (g2_) ?_
     with_reducible refine (spec_l20Rd_pick.calls kj7 g ac cm3 120 dt7 dt8 w0 _ ?side1 ?side2 A58.out).mono ?_
     (case side1 => exact bh)
     (case side2 => exact ct)
     rintro e w60 ⟨rfl, hi, hb, hk⟩
     refine ⟨_, rfl, ?_⟩
     replace av := kb_ hk av kv
     replace ar := kb_ hk ar kh
     replace ay := kb_ hk ay d4
     replace HK := Aside0.mk (KeepBut.trans (ci) hk (.inl rfl))
     replace HB := Aside0.mk (hb)
     replace HI0 := Aside0.mk (hi)
     (try clear hb)
     (try clear hk hi)
     refine hK.out _ _ ⟨(blk_cell ay.out 0).trans rfl, (blk_cell ay.out 1).trans rfl, (blk_cell ay.out 2).trans rfl, (blk_cell ay.out 3).trans rfl⟩ (fun hHeld => ?_)
     clear hK K
     refine nm_ ?_
     refine pw_ 4 53 (tl_ 8 31) rfl rfl ?_
     refine pw_ 5 54 (tl_ 8 63) rfl rfl ?_
     refine pw_ 6 55 (tl_ 8 127) rfl rfl ?_
     refine last_ (i := 7) (N := none) (tl_ 8 255) rfl rfl (one_of HT_.out (g1_)) (by decide) (fun K hK => ?_)
     have hh7 : w60.cell? ⟨ai, 3, none⟩ = some (.int .i64 zx) := (blk_cell ay.out 3).trans rfl
     have hh8 := blk_frozen ay.out 3
     have hh9 := eh.out
     have hi2 := ed.out
     have hi3 := ev.out
     have hi4 := ew.out
     refine skip_ (w1 := ?_) (by rfl) rfl ?_ ?_
     rotate_left
     ·go_simp
      rfl
     refine hK.out _ _ ?_
     clear hK K
     refine done_ (done_of HT_.out (g1_)) ?_
     try go_wp2
     go_meet
     case rel => exact ⟨_, (dt8), (wrap64 ((wrap64 (zx + dt7)) - 10)), H', ⟨by have := HJ7.out; first | omega | exact Nat.le_refl _⟩, ⟨g51_⟩, ⟨g52_⟩, ⟨by (with_reducible repeat (first | refine blk_drewN ?_ _ | refine blk_drew ?_ | refine blk_alloc ?_ _)); refine blk_put (cs := #[.int .i64 (wrap64 ((rd ap b3) + (wrap64 ((wrap64 (Int.tdiv cx 59)) * 5)))), .int .i64 n9, .int .i64 rk, .int .i64 zx]) ?_ 3 _ rfl; exact uf0_ ay⟩, ⟨bh⟩, ⟨ci⟩, ⟨ct⟩⟩
    ·replace qa := Bool.eq_false_iff.mpr qa
     subst qa
     replace H := ifn_ H
     have H' := Aside0.mk H
     clear H
     go_wp2
     go_meet
     case rel => exact ⟨_, (cm3), (zx), H', ⟨by have := HJ7.out; first | omega | exact Nat.le_refl _⟩, ⟨uf0_ av⟩, ⟨uf0_ ar⟩, ⟨uf0_ ay⟩, ⟨bh⟩, ⟨ci⟩, ⟨ct⟩⟩
   case rest =>
    clear cm4
    try clear c1
    try clear c2
    try clear p2
    try clear c3
    try clear p3
    try clear q3
    try clear hx3
    try clear c4
    try clear c5
    try clear p6
    try clear c7
    try clear fv
    try clear ij
    try clear mf
    try clear pt
    try clear jp
    try clear qu
    try clear cl7
    try clear m9
    try clear jq
    try clear p36
    try clear q36
    try clear fj9
    try clear c37
    try clear h9
    try clear yo
    try clear aj8
    try clear c46
    try clear c47
    try clear c48
    try clear qa
    try clear ag9
    try clear ah0
    try clear bh2
    try clear dq2
    try clear at1
    try clear at2
    try clear cl9
    try clear dq8
    try clear dr0
    try clear dr1
    try clear dr2
    try clear dr3
    try clear bj4
    try clear bj5
    try clear ds3
    try clear ds4
    try clear ai9
    try clear aj0
    try clear bo8
    try clear bo9
    try clear ds7
    try clear ds8
    try clear ds9
    try clear dt0
    try clear ah1
    try clear ah2
    try clear bh3
    try clear dq3
    try clear at3
    try clear at4
    try clear cm0
    try clear dq9
    try clear dr4
    try clear dr5
    try clear dr6
    try clear dr7
    try clear bj6
    try clear bj7
    try clear ds5
    try clear ds6
    try clear aj1
    try clear aj2
    try clear bp0
    try clear bp1
    try clear dt1
    try clear dt2
    try clear dt3
    try clear dt4
    try clear wm
    try clear p2
    try clear p3
    try clear p36
    try clear wk
    try clear p6
    try clear q3
    try clear q36
    try clear wl
    obtain ⟨kq, ba2, am1, HA, HJ54, av, ar, ay, HI0, HK, HB⟩ := hcut
    cases kq with
    | zero => exact absurd HA.out (by simp [spec_l20Deed.j1])
    | succ kj54 =>
     have H := HA.out
     clear HA
     simp only [spec_l20Deed.j1] at H
     replace H := Option.bind_eq_some_iff.mp H
     obtain ⟨⟨fk0, cm5⟩, du0, H⟩ := H
     try dsimp only at H
     have A62 := Aside0.mk du0
     clear du0
     by_cases t6 : fk0 = true
     ·subst t6
      replace H := ifp_ H
      replace H := Option.bind_eq_some_iff.mp H
      obtain ⟨⟨bq6, fk1⟩, du1, H⟩ := H
      try dsimp only at H
      have A64 := Aside0.mk du1
      clear du1
      simp only [Option.some.injEq, Prod.mk.injEq] at H
      obtain ⟨rfl, rfl, rfl, rfl, rfl⟩ := H
      try go_wp2_with (first | ((with_reducible refine gate_callee (f := 106) rfl ?_); refine goesL_ (some 57) rfl rfl Try.func106 k_ rfl #[.pointer (some ⟨g, 0, none⟩), .int .i64 40] rfl (g2_) ?_; (with_reducible refine (spec_l20Rd_odd.calls kj54 g ac ba2 40 true cm5 w0 _ ?side1 ?side2 A62.out).mono ?_); (case side1 => exact bh); (case side2 => exact ct); rintro e w65 ⟨rfl, hi, hb, hk⟩; refine ⟨_, rfl, ?_⟩; replace av := kb_ hk av kv; replace ar := kb_ hk ar kh; replace ay := kb_ hk ay d4; replace HK := Aside0.mk (KeepBut.trans (ci) hk (.inl rfl)); replace HB := Aside0.mk (hb); replace HI0 := Aside0.mk (hi); (try clear hb); (try clear hk hi)))
      replace av := Aside0.mk (blk_drew av.out)
      replace ar := Aside0.mk (blk_drew ar.out)
      replace ay := Aside0.mk (blk_drew ay.out)
      replace HI0 := Aside0.mk (IsS112.drew HI0.out)
      replace HK := Aside0.mk (keep_drew HK.out)
      replace HB := Aside0.mk (below_drew1 HB.out)
      refine start_ (n := 8) (S := fun w' => w'.cell? ⟨ai, 0, none⟩ = some (.int .i64 (wrap64 ((rd ap b3) + (wrap64 ((wrap64 (Int.tdiv cx 59)) * 5))))) ∧ w'.cell? ⟨ai, 1, none⟩ = some (.int .i64 n9) ∧ w'.cell? ⟨ai, 2, none⟩ = some (.int .i64 rk) ∧ w'.cell? ⟨ai, 3, none⟩ = some (.int .i64 am1)) (ds := [7]) (tl_ 8 0) (g1_) rfl (g1_) ⟨(blk_cell ay.out 0).trans rfl, (blk_cell ay.out 1).trans rfl, (blk_cell ay.out 2).trans rfl, (blk_cell ay.out 3).trans rfl⟩ (fun hHeld => ?_); refine with_tabW spec_l20Deed.tab14 spec_l20Deed.bits14 (fun HT_ HW_ => ?_)
      generalize w65.drew = w66 at av ar ay HI0 HK HB hHeld ⊢
      refine pw_ 0 58 (tl_ 8 1) rfl rfl ?_
      refine pw_ 2 60 (tl_ 8 5) rfl rfl ?_
      refine tk1_ 1 59 (tl_ 8 7) rfl rfl hHeld ?_
      refine one_ (i := 3) (N := some 61) (tl_ 8 15) rfl rfl (one_of HT_.out (g1_)) (by decide) (fun K hK => ?_)
      refine goes_ Try.func70 (g1_) rfl #[.pointer (some ⟨g, 0, none⟩), .int .i64 7] (by rfl) rfl rfl (g2_) ?_
      with_reducible refine (spec_l20Rd_pick.calls kj54 g ac cm5 7 bq6 fk1 w0 _ ?side1 ?side2 A64.out).mono ?_
      (case side1 => exact bh)
      (case side2 => exact ct)
      rintro e w67 ⟨rfl, hi, hb, hk⟩
      refine ⟨_, rfl, ?_⟩
      replace av := kb_ hk av kv
      replace ar := kb_ hk ar kh
      replace ay := kb_ hk ay d4
      replace HK := Aside0.mk (KeepBut.trans (ci) hk (.inl rfl))
      replace HB := Aside0.mk (hb)
      replace HI0 := Aside0.mk (hi)
      (try clear hb)
      (try clear hk hi)
      refine hK.out _ _ ⟨(blk_cell ay.out 0).trans rfl, (blk_cell ay.out 1).trans rfl, (blk_cell ay.out 2).trans rfl, (blk_cell ay.out 3).trans rfl⟩ (fun hHeld => ?_)
      clear hK K
      refine nm_ ?_
      refine pw_ 4 62 (tl_ 8 31) rfl rfl ?_
      refine pw_ 5 63 (tl_ 8 63) rfl rfl ?_
      refine pw_ 6 64 (tl_ 8 127) rfl rfl ?_
      refine last_ (i := 7) (N := none) (tl_ 8 255) rfl rfl (one_of HT_.out (g1_)) (by decide) (fun K hK => ?_)
      have hi5 : w67.cell? ⟨ai, 1, none⟩ = some (.int .i64 n9) := (blk_cell ay.out 1).trans rfl
      have hi6 := blk_frozen ay.out 1
      have hi7 := eh.out
      have hi8 := ed.out
      have hi9 := ev.out
      have hj0 := ew.out
      refine skip_ (w1 := ?_) (by rfl) rfl ?_ ?_
      rotate_left
      ·go_simp
       rfl
      refine hK.out _ _ ?_
      clear hK K
      refine done_ (done_of HT_.out (g1_)) ?_
      have fc5 := ev.out
      have fc6 := eh.out
      have di6 := ew.out
      have di7 := ed.out
      have di8 := d4.out
      have di9 := fd.out
      obtain ⟨fc7, fc8, fc9, hj1, fd0, fd1, fd2, hj4⟩ := blk4_ ay
      have fd3 := cl4.out
      have fd4 := cl3.out
      have dj0 := kh.out
      have dj1 := cl2.out
      obtain ⟨fd5, fd6, fd7, fd8, fd9, fe0, fe1, fe2⟩ := blk4_ ar
      try go_wp2
      refine bodyPost_ret (results_cell_row rfl _ _ bp 69 #[.int .i64 (wrap64 ((rd ap b3) + (wrap64 ((wrap64 (Int.tdiv cx 59)) * 5)))), .int .i64 (wrap64 ((wrap64 (n9 + bq6)) - 2)), .int .i64 rk, .int .i64 am1] (0, 0) _ rfl (by (with_reducible repeat (first | refine blk_drewN ?_ _ | refine blk_drew ?_ | refine blk_alloc ?_ _)); refine blk_put (cs := #[.int .i64 (wrap64 ((rd ap b3) + (wrap64 ((wrap64 (Int.tdiv cx 59)) * 5)))), .int .i64 (wrap64 ((wrap64 (n9 + bq6)) - 2)), .int .i64 rk, .int .i64 0]) ?_ 3 _ rfl; refine blk_put (cs := #[.int .i64 (wrap64 ((rd ap b3) + (wrap64 ((wrap64 (Int.tdiv cx 59)) * 5)))), .int .i64 (wrap64 ((wrap64 (n9 + bq6)) - 2)), .int .i64 0, .int .i64 0]) ?_ 2 _ rfl; refine blk_put (cs := #[.int .i64 (wrap64 ((rd ap b3) + (wrap64 ((wrap64 (Int.tdiv cx 59)) * 5)))), .int .i64 0, .int .i64 0, .int .i64 0]) ?_ 1 _ rfl; refine blk_put (cs := #[.int .i64 0, .int .i64 0, .int .i64 0, .int .i64 0]) ?_ 0 _ rfl; refine blk_far ?_ ed.out _; exact uf0_ ar) Try.underlying69 rfl (g1_)) rfl ?_
      exact ⟨g76_, bh, ct, ci⟩
     ·replace t6 := Bool.eq_false_iff.mpr t6
      subst t6
      replace H := ifn_ H
      simp only [Option.some.injEq, Prod.mk.injEq] at H
      obtain ⟨rfl, rfl, rfl, rfl, rfl⟩ := H
      go_wp2_with (first | ((with_reducible refine gate_callee (f := 106) rfl ?_); refine goesL_ (some 57) rfl rfl Try.func106 k_ rfl #[.pointer (some ⟨g, 0, none⟩), .int .i64 40] rfl (g2_) ?_; (with_reducible refine (spec_l20Rd_odd.calls kj54 g ac ba2 40 false cm5 w0 _ ?side1 ?side2 A62.out).mono ?_); (case side1 => exact bh); (case side2 => exact ct); rintro e w76 ⟨rfl, hi, hb, hk⟩; refine ⟨_, rfl, ?_⟩; replace av := kb_ hk av kv; replace ar := kb_ hk ar kh; replace ay := kb_ hk ay d4; replace HK := Aside0.mk (KeepBut.trans (ci) hk (.inl rfl)); replace HB := Aside0.mk (hb); replace HI0 := Aside0.mk (hi); (try clear hb); (try clear hk hi); have hj5 := ev.out; have hj6 := eh.out; have eu6 := ew.out; have eu7 := ed.out; have dj2 := d4.out; have dj3 := fd.out; obtain ⟨hj7, hj8, hj9, hk0, hk1, hk2, hk3, hk4⟩ := blk4_ ay; have fe4 := cl4.out; have fe5 := cl3.out; have dj4 := kh.out; have dj5 := cl2.out; obtain ⟨fe6, fe7, hk5, hk6, fe8, fe9, hk7, hk8⟩ := blk4_ ar))
      refine bodyPost_ret (results_cell_row rfl _ _ bp 69 #[.int .i64 (wrap64 ((rd ap b3) + (wrap64 ((wrap64 (Int.tdiv cx 59)) * 5)))), .int .i64 n9, .int .i64 rk, .int .i64 am1] (0, 0) _ rfl (by (with_reducible repeat (first | refine blk_drewN ?_ _ | refine blk_drew ?_ | refine blk_alloc ?_ _)); refine blk_put (cs := #[.int .i64 (wrap64 ((rd ap b3) + (wrap64 ((wrap64 (Int.tdiv cx 59)) * 5)))), .int .i64 n9, .int .i64 rk, .int .i64 0]) ?_ 3 _ rfl; refine blk_put (cs := #[.int .i64 (wrap64 ((rd ap b3) + (wrap64 ((wrap64 (Int.tdiv cx 59)) * 5)))), .int .i64 n9, .int .i64 0, .int .i64 0]) ?_ 2 _ rfl; refine blk_put (cs := #[.int .i64 (wrap64 ((rd ap b3) + (wrap64 ((wrap64 (Int.tdiv cx 59)) * 5)))), .int .i64 0, .int .i64 0, .int .i64 0]) ?_ 1 _ rfl; refine blk_put (cs := #[.int .i64 0, .int .i64 0, .int .i64 0, .int .i64 0]) ?_ 0 _ rfl; exact uf0_ ar) Try.underlying69 rfl (g1_)) rfl ?_
      exact ⟨g76_, bh, ct, ci⟩
def spec_l20Desk.l0 : Nat → Int → Int → List Int → Int → List Int → List (List Int) → List (S25) → Option (List Int × (List (List Int)) × (List (S25)) × Int)
 | 0, _, _, _, _, _, _, _ => none
 | k + 1, x1, x6, et, gl, af5, am2, af6 => if x6 > 0 then ((spec_l20Deed.f k et gl af5 am2 af6).bind fun bt400 => ((spec_DeskDo.f k af5 am2 af6 bt400.1 bt400.2.1 bt400.2.2.1 bt400.2.2.2.1).bind fun bt405 => (if bt405.2.2.2 = true then (spec_l20Desk.l0 k x1 (wrap64 (x6 - 1)) et bt400.2.2.2.2 bt405.1 bt405.2.1 bt405.2.2.1) else (spec_l20Desk.l0 k x1 (wrap64 (x6 - 1)) et bt400.2.2.2.2 af5 am2 af6)))) else ((spec_l20Rd_odd.f k et gl x1).bind fun bt416 => (if bt416.1 = true then ((spec_l20Rd_pick.f k et bt416.2 3).bind fun bt418 => (if bt418.1 = 0 then (if 0 < (af5.length : Int) then (some ((af5.set (0 : Int).toNat (-1)), am2, af6, bt418.2)) else (none)) else (if bt418.1 = 1 then (if 5 ≤ 35184372088832 then (if af6.length < 2932031007402 then (some (af5, am2, (af6 ++ [(⟨(List.replicate 5 0), ([] : List (List Int))⟩ : S25)]), bt418.2)) else (none)) else (none)) else (some (([] : List Int), ([] : List (List Int)), ([] : List (S25)), bt418.2))))) else (some (af5, am2, af6, bt416.2))))
def spec_l20Desk.f (k : Nat) (ac : List Int) (bz : Int) (a1 : Int) : Option (List Int × (List (List Int)) × (List (S25)) × Int) := (spec_l20Book.f k ac bz 0).bind fun bt390 => ((spec_l20Rd_pick.f k ac bt390.2.2 5).bind fun bt398 => (spec_l20Desk.l0 k a1 bt398.1 ac bt398.2 bt390.1 bt390.2.1 ([] : List (S25))))
theorem spec_l20Desk.mq {p : Prop} (h : p := by
 repeat' first
 | (with_reducible exact ih0 _ _ _ _ _ _ _)
 | (with_reducible exact spec_DeskDo.mono _ _ _ _ _ _ _ _)
 | (with_reducible exact spec_l20Book.mono _ _ _ _)
 | (with_reducible exact spec_l20Deed.mono _ _ _ _ _ _)
 | (with_reducible exact spec_l20Rd_odd.mono _ _ _ _)
 | (with_reducible exact spec_l20Rd_pick.mono _ _ _ _)
 | (with_reducible exact LeO.refl _)
 | (with_reducible exact LeO.none _)
 | (with_reducible refine LeO.ite ?_ ?_)
 | (with_reducible refine LeO.bind ?_ (fun _ => ?_))
 | exact ih0 _ _ _ _ _ _ _
 | exact spec_DeskDo.mono _ _ _ _ _ _ _ _
 | exact spec_l20Book.mono _ _ _ _
 | exact spec_l20Deed.mono _ _ _ _ _ _
 | exact spec_l20Rd_odd.mono _ _ _ _
 | exact spec_l20Rd_pick.mono _ _ _ _
 | exact LeO.none _
 | refine LeO.ite ?_ ?_
 | refine LeO.bind ?_ (fun _ => ?_)) : p := h
theorem spec_l20Desk.mono_l : ∀ k, (∀ y0 y1 y2 y3 y4 y5 y6, LeO (spec_l20Desk.l0 k y0 y1 y2 y3 y4 y5 y6) (spec_l20Desk.l0 (k + 1) y0 y1 y2 y3 y4 y5 y6))
 | 0 => fun _ _ _ _ _ _ _ r h => by simp [spec_l20Desk.l0] at h
 | k + 1 => by
  have ih0 := spec_l20Desk.mono_l k
  ·intro y0 y1 y2 y3 y4 y5 y6
   unfold spec_l20Desk.l0
   exact spec_l20Desk.mq
theorem spec_l20Desk.mono : ∀ a0 a1 a2 k, LeO (spec_l20Desk.f k a0 a1 a2) (spec_l20Desk.f (k + 1) a0 a1 a2) := by
 intro a0 a1 a2 k
 have ih0 := spec_l20Desk.mono_l k
 unfold spec_l20Desk.f
 exact spec_l20Desk.mq
def spec_l20Desk.T5 : Bool × List (List Nat × List Nat) := (true, [([], []), ([], []), ([], []), ([1, 2], [1, 2]), ([0, 3, 3], [0, 3]), ([4], [4]), ([5], [5]), ([5], [5]), ([], []), ([8, 6, 4, 0, 1, 2, 3, 4, 5, 6, 8], [6, 8]), ([7, 9, 0, 1, 2, 3, 4, 5, 6, 7, 8, 9], [7])])
def spec_l20Desk.B5 : List Nat := [0, 0, 0, 6, 15, 31, 63, 63, 0, 383, 1023]
theorem spec_l20Desk.tab5 : rtab .any (opsOf Try.f77 5) = spec_l20Desk.T5 := by kernel_rfl
theorem spec_l20Desk.bits5 : waitsOk spec_l20Desk.T5.2 spec_l20Desk.B5 = true := by kernel_rfl
def spec_l20Desk.T14 : Bool × List (List Nat × List Nat) := (true, [([], []), ([0], [0]), ([], []), ([2], [2]), ([3], [3]), ([1, 4], [1, 4]), ([0, 1, 2, 3, 4, 5], []), ([6, 5, 5, 0, 1, 2, 3, 4, 5], [5, 6])])
def spec_l20Desk.B14 : List Nat := [0, 1, 0, 4, 12, 31, 63, 127]
theorem spec_l20Desk.tab14 : rtab .any (opsOf Try.f77 14) = spec_l20Desk.T14 := by kernel_rfl
theorem spec_l20Desk.bits14 : waitsOk spec_l20Desk.T14.2 spec_l20Desk.B14 = true := by kernel_rfl
theorem bi {p : Prop} (h : p := by repeat (first | (with_reducible first | exact HI0.out | apply IsS112.alloc | apply IsS112.drewN | apply IsS112.drew | apply IsS112.set_1 | refine IsS112.far ?_ ba3.out _ | refine IsS112.far ?_ am3.out _ | refine IsS112.far ?_ oa.out _) | exact HI0.out)) : p := h
theorem da {p : Prop} (h : p := by repeat (first | (with_reducible first | exact HK.out | apply KeepBut.set_ | apply keep_drewN | apply keep_drew | apply keep_alloc | refine keep_far ?_ fk2.out _ | refine keep_far ?_ fk3.out _ | refine keep_far ?_ o3.out _) | exact HK.out)) : p := h
theorem e6 {p : Prop} (h : p := by repeat (first | (with_reducible first | exact HB.out | apply below_alloc | apply pw_below_drewN | apply below_drew1 | refine below_set ?_ (IsS112.ge HI0.out) | refine below_set ?_ fk4.out | refine below_set ?_ fk5.out | refine below_set ?_ o4.out) | exact HB.out)) : p := h
set_option maxHeartbeats 8000000 in
set_option maxRecDepth 100000 in
theorem spec_l20Desk.calls (k : Nat) (g : Nat) (ac : List Int) (bz : Int) (a1 : Int) (r1 : List Int) (r2 : List (List Int)) (r3 : List (S25)) (r4 : Int) (w0 w : World) (hI : IsS112 w0 w g ac bz) (hB : Below w0.heap.size w0 w) (h : spec_l20Desk.f k ac bz a1 = some (r1, r2, r3, r4)) :
  Calls Try.prog 77 #[.pointer (some ⟨g, 0, none⟩), .int .i64 a1] w fun e w' => ∃ v0_ v1_ v2_ : Value, e = .returned (.agg #[v0_, v1_, v2_]) ∧ Kd.R (Kd.int .i64) 3 w' w.heap.size (fun _ => True) v0_ r1 ∧ Kd.S (Kd.slice 3 (Kd.int .i64)) 22 w' w.heap.size (fun k_ => some k_ ≠ (v0_ : Value).ownBlock) v1_ r2 ∧ Kd.Q k25 25 w' w.heap.size (fun k_ => some k_ ≠ (v0_ : Value).ownBlock ∧ some k_ ≠ (v1_ : Value).ownBlock) v2_ r3 ∧ IsS112 w0 w' g ac r4 ∧ Below w0.heap.size w0 w' ∧ KeepBut w w' g none := by
 have hu28 := Try.underlying28
 have hu25 := Try.underlying25
 have HI0 := Aside0.mk hI
 have HK := Aside0.mk (KeepBut.refl w g none)
 have HL := Aside0.mk hB.size
 clear hI
 have HW0 := Aside0.mk hB.size
 have HB := Aside0.mk hB
 clear hB
 have H : ((spec_l20Book.f k ac bz 0).bind fun bt390 => ((spec_l20Rd_pick.f k ac bt390.2.2 5).bind fun bt398 => (spec_l20Desk.l0 k a1 bt398.1 ac bt398.2 bt390.1 bt390.2.1 ([] : List (S25))))) = some (r1, r2, r3, r4) := h
 clear h
 replace H := Option.bind_eq_some_iff.mp H
 obtain ⟨⟨zy, af7, am4⟩, mj, H⟩ := H
 try dsimp only at H
 have A3 := Aside0.mk mj
 clear mj
 replace H := Option.bind_eq_some_iff.mp H
 obtain ⟨⟨du2, du3⟩, m7, H⟩ := H
 try dsimp only at H
 have A4 := Aside0.mk m7
 clear m7
 have H' := Aside0.mk H
 clear H
 go_enter Try.func77, Try.ntmps77
 go_wp2_with (first | ((with_reducible refine gate_dst (N := 4) rfl ?_); refine bx_ (N := 4) #[.slice none 0 0, .slice none 0 0, .slice none 0 0] 28 ?_; intro cy hg w5 hbox hb; replace HB := Aside0.mk (below_step (e6) hb); have bj := Aside0.mk (hbox); have fk2 := Aside0.mk ((g11_ : w.heap.size ≤ cy)); have fk4 := Aside0.mk ((Nat.le_trans HW0.out (g11_ : w.heap.size ≤ cy) : w0.heap.size ≤ cy)); replace HK := Aside0.mk (KeepBut.trans (da) (KeepBut.of_below hb g none) (.inl rfl)); have ba3 := Aside0.mk ((by rw [hg]; exact Nat.ne_of_lt (IsS112.lt (show IsS112 w0 _ g ac bz from bi)) : g ≠ cy)); have mr := Aside0.mk ((by rw [hg]; exact Nat.ne_of_gt (IsS112.lt (show IsS112 w0 _ g ac bz from bi)) : cy ≠ g)); replace HI0 := Aside0.mk (IsS112.below (bi) hb); clear hb hbox hg) | ((with_reducible refine gate_callee (f := 91) rfl ?_); refine goesL_ (some 10) rfl rfl Try.func91 k_ rfl #[.pointer (some ⟨g, 0, none⟩), .int .i64 0] rfl (g2_) ?_; (with_reducible refine (spec_l20Book.calls k g ac bz 0 zy af7 am4 w0 _ ?side1 ?side2 A3.out).mono ?_); (case side1 => exact bi); (case side2 => exact e6); rintro e w6 ⟨hk9, hl3, rfl, am, ba, hi, hb, hk⟩; refine ⟨_, rfl, ?_⟩; replace bj := kb_ hk bj mr; have am5 := Aside0.mk (Kd.R_lower am (keep_size (w := w) (g := g) (row := none) (da))); have am6 := Aside0.mk (Kd.S_lower ba (keep_size (w := w) (g := g) (row := none) (da))); replace HK := Aside0.mk (KeepBut.trans (da) hk (.inl rfl)); replace HB := Aside0.mk (hb); replace HI0 := Aside0.mk (hi); (try clear hb); (try clear hk hi); (try clear am); (try clear ba); obtain ⟨rl, rm, eo7⟩ := Kd.S_slice am6.out; subst eo7; obtain ⟨i4, i5, eo8⟩ := Kd.R_slice am5.out; subst eo8) | ((with_reducible refine gate_dst (N := 5) rfl ?_); refine bx_ (N := 5) #[.slice none 0 0, .slice none 0 0, .slice none 0 0] 28 ?_; intro cf hg w9 hbox hb; replace am5 := Aside0.mk (Kd.R_below (uf2_ am5) hb); replace am6 := Aside0.mk (Kd.S_below (uf3_ am6) hb); replace HB := Aside0.mk (below_step (e6) hb); have al := Aside0.mk (hbox); have fk3 := Aside0.mk ((g11_ : w.heap.size ≤ cf)); have fk5 := Aside0.mk ((Nat.le_trans HW0.out (g11_ : w.heap.size ≤ cf) : w0.heap.size ≤ cf)); replace HK := Aside0.mk (KeepBut.trans (da) (KeepBut.of_below hb g none) (.inl rfl)); have o5 := Aside0.mk ((g36_ : cy ≠ cf)); have af8 := Aside0.mk ((g37_ : cf ≠ cy)); replace bj := bb_ bj hb; have am3 := Aside0.mk ((by rw [hg]; exact Nat.ne_of_lt (IsS112.lt (show IsS112 w0 _ g ac am4 from bi)) : g ≠ cf)); have ms := Aside0.mk ((by rw [hg]; exact Nat.ne_of_gt (IsS112.lt (show IsS112 w0 _ g ac am4 from bi)) : cf ≠ g)); replace HI0 := Aside0.mk (IsS112.below (bi) hb); clear hb hbox hg; have dl4 := af8.out; have dl5 := o5.out; have ar0 := ms.out; have ar1 := am3.out; obtain ⟨ax9, ay0, bp6, bp7, ay1, bp8⟩ := blk3_ al) | ((with_reducible refine gate_callee (f := 70) rfl ?_); refine goesL_ (some 13) rfl rfl Try.func70 k_ rfl #[.pointer (some ⟨g, 0, none⟩), .int .i64 5] rfl (g2_) ?_; (with_reducible refine (spec_l20Rd_pick.calls k g ac am4 5 du2 du3 w0 _ ?side1 ?side2 A4.out).mono ?_); (case side1 => exact bi); (case side2 => exact e6); rintro e w13 ⟨rfl, hi, hb, hk⟩; refine ⟨_, rfl, ?_⟩; replace bj := Aside0.mk (KeepBut.blk hk (g' := cy) (o := .cells #[.slice none 0 0, .slice none 0 0, .slice none 0 0] 28 (0, 0)) (by (with_reducible repeat (first | refine blk_drewN ?_ _ | refine blk_drew ?_ | refine blk_alloc ?_ _)); refine blk_far ?_ o5.out _; refine blk_far ?_ o5.out _; refine blk_far ?_ o5.out _; exact uf0_ bj) mr.out (by simp)); replace am5 := Aside0.mk (Kd.R_mono (Kd.R_keep (IsS112.apart (show IsS112 w0 _ g ac am4 from bi) (by (with_reducible repeat (first | apply Kd.R_alloc | apply Kd.R_drewN | apply Kd.R_drew)); exact (Kd.R_mono (Kd.R_far (p := ⟨cf, 2, none⟩) (Kd.R_far (p := ⟨cf, 1, none⟩) (Kd.R_far (p := ⟨cf, 0, none⟩) (Kd.R_types am5.out al.out (by decide)) (fun _ hk => hk.2) (.slice i4 zy.length i5)) (fun _ hk => hk.2) (.slice rl af7.length rm)) (fun _ hk => hk.2) (.slice none 0 0)) (fun _ h_ => h_.1))) (by decide)) hk (fun _ h => h.2)) (fun _ h => h.1)); replace am6 := Aside0.mk (Kd.S_mono (Kd.S_keep (IsS112.apartS (show IsS112 w0 _ g ac am4 from bi) (by (with_reducible repeat (first | apply Kd.S_alloc | apply Kd.S_drewN | apply Kd.S_drew)); exact (Kd.S_mono (Kd.S_far (p := ⟨cf, 2, none⟩) (Kd.S_far (p := ⟨cf, 1, none⟩) (Kd.S_far (p := ⟨cf, 0, none⟩) (Kd.S_types am6.out al.out (by decide)) (fun _ hk => hk.2) (.slice i4 zy.length i5)) (fun _ hk => hk.2) (.slice rl af7.length rm)) (fun _ hk => hk.2) (.slice none 0 0)) (fun _ h_ => h_.1))) (by decide)) hk (fun _ h => h.2)) (fun _ h => h.1)); replace al := Aside0.mk (KeepBut.blk hk (g' := cf) (o := .cells #[.slice i4 zy.length i5, .slice rl af7.length rm, .slice none 0 0] 28 (0, 0)) (by (with_reducible repeat (first | refine blk_drewN ?_ _ | refine blk_drew ?_ | refine blk_alloc ?_ _)); refine blk_put (cs := #[.slice i4 zy.length i5, .slice rl af7.length rm, .slice none 0 0]) ?_ 2 _ rfl; refine blk_put (cs := #[.slice i4 zy.length i5, .slice none 0 0, .slice none 0 0]) ?_ 1 _ rfl; refine blk_put (cs := #[.slice none 0 0, .slice none 0 0, .slice none 0 0]) ?_ 0 _ rfl; exact uf0_ al) ms.out (by simp)); replace HK := Aside0.mk (KeepBut.trans (da) hk (.inl rfl)); replace HB := Aside0.mk (hb); replace HI0 := Aside0.mk (hi); (try clear hb); (try clear hk hi)))
 go_loopg [6] k (fun kq v6 w' => ∃ (j4 : Int) (dp : Int) (bl : List Int) (cg : List (List Int)) (cz : List (S25)) (wo : Value) (uh : Value) (wq : Value), v6 = .int .i64 j4 ∧ Aside0 (spec_l20Desk.l0 kq a1 j4 ac dp bl cg cz = some (r1, r2, r3, r4)) ∧ Aside0 (kq ≤ k) ∧ Aside0 (Kd.R (Kd.int .i64) 3 w' w.heap.size (fun _ => True) wo bl) ∧ Aside0 (Kd.S (Kd.slice 3 (Kd.int .i64)) 22 w' w.heap.size (fun k_ => some k_ ≠ (wo : Value).ownBlock) uh cg) ∧ Aside0 (Kd.Q k25 25 w' w.heap.size (fun k_ => some k_ ≠ (wo : Value).ownBlock ∧ some k_ ≠ (uh : Value).ownBlock) wq cz) ∧ Aside0 (w'.heap[cy]? = some (.cells #[(.slice none 0 0), (.slice none 0 0), (.slice none 0 0)] 28 (0, 0))) ∧ Aside0 (w'.heap[cf]? = some (.cells #[wo, uh, wq] 28 (0, 0))) ∧ Aside0 (IsS112 w0 w' g ac dp) ∧ Aside0 (KeepBut w w' g none) ∧ Aside0 (Below w0.heap.size w0 w'))
 case atStart => exact ⟨(du2), (du3), (zy), (af7), (([] : List (S25))), (.slice i4 zy.length i5), (.slice rl af7.length rm), (.slice none 0 0), (g3_), H', ⟨Nat.le_refl _⟩, ⟨uf2_ am5⟩, ⟨uf3_ am6⟩, ⟨Kd.Q_of_R (g16_)⟩, ⟨uf0_ bj⟩, ⟨uf0_ al⟩, ⟨bi⟩, ⟨da⟩, ⟨e6⟩⟩
 case round =>
  clear H'
  try clear c1
  try clear p2
  try clear c7
  try clear c9
  try clear fv
  try clear kn
  try clear ax9
  try clear ay0
  try clear bp6
  try clear bp7
  try clear ay1
  try clear bp8
  obtain ⟨j4, dp, bl, cg, cz, wo, uh, wq, rfl, HA, HK1, aw, bc, bf, bj, al, HI0, HK, HB⟩ := hrel
  cases gk with
  | zero => exact absurd HA.out (by simp [spec_l20Desk.l0])
  | succ k1 =>
   have H := HA.out
   clear HA
   simp only [spec_l20Desk.l0] at H
   by_cases e3 : j4 > 0
   ·rw [if_pos e3] at H
    have oo := decide_eq_true e3
    clear e3
    replace H := Option.bind_eq_some_iff.mp H
    obtain ⟨⟨lx, ly, lz, l3, l4⟩, du4, H⟩ := H
    try dsimp only at H
    have A15 := Aside0.mk du4
    clear du4
    replace H := Option.bind_eq_some_iff.mp H
    obtain ⟨⟨jv, ki, kx, fk6⟩, ar4, H⟩ := H
    try dsimp only at H
    have ya := Aside0.mk ar4
    clear ar4
    by_cases fa : fk6 = true
    ·subst fa
     replace H := ifp_ H
     have H' := Aside0.mk H
     clear H
     obtain ⟨em, dw, ch8⟩ := Kd.R_slice aw.out
     subst ch8
     obtain ⟨il, gh, ps⟩ := Kd.S_slice bc.out
     subst ps
     obtain ⟨kw, gn, su, _⟩ := Kd.Q_slice bf.out
     subst su
     try go_wp2
     replace aw := Aside0.mk (Kd.R_drew aw.out)
     replace bc := Aside0.mk (Kd.S_drew bc.out)
     replace bf := Aside0.mk (Kd.Q_drew bf.out)
     replace bj := Aside0.mk (blk_drew bj.out)
     replace al := Aside0.mk (blk_drew al.out)
     replace HI0 := Aside0.mk (IsS112.drew HI0.out)
     replace HK := Aside0.mk (keep_drew HK.out)
     replace HB := Aside0.mk (below_drew1 HB.out)
     refine start_ (n := 11) (S := fun w' => w'.cell? ⟨cf, 0, none⟩ = some (.slice em bl.length dw) ∧ w'.cell? ⟨cf, 1, none⟩ = some (.slice il cg.length gh) ∧ w'.cell? ⟨cf, 2, none⟩ = some (.slice kw cz.length gn)) (ds := []) (tl_ 11 0) (g1_) rfl (g1_) ⟨(blk_cell al.out 0).trans rfl, (blk_cell al.out 1).trans rfl, (blk_cell al.out 2).trans rfl⟩ (fun hHeld => ?_); refine with_tabW spec_l20Desk.tab5 spec_l20Desk.bits5 (fun HT_ HW_ => ?_)
     generalize wr.drew = f9 at aw bc bf bj al HI0 HK HB hHeld ⊢
     refine pw_ 1 20 (tl_ 11 2) rfl rfl ?_
     refine tk2_ 0 19 (tl_ 11 3) rfl rfl hHeld ?_
     refine tk2_ 2 21 (tl_ 11 7) rfl rfl hHeld ?_
     refine join_ (σ := Value × Value × Value × Nat) 2 (tl_ 11 511) (fun s_ => [(22, .agg #[.int .i64 lx, .int .i64 ly, .int .i64 lz, .int .i64 l3]), (23, .tuple #[.agg #[s_.1, s_.2.1, s_.2.2.1], .bool true]), (7, .pointer (some ⟨s_.2.2.2, 0, none⟩)), (18, .tuple #[.agg #[s_.1, s_.2.1, s_.2.2.1], .bool true]), (24, .agg #[s_.1, s_.2.1, s_.2.2.1]), (25, .bool true)]) (fun s_ w' => (w'.cell? ⟨cf, 0, none⟩ = some (.slice em bl.length dw) ∧ w'.cell? ⟨cf, 1, none⟩ = some (.slice il cg.length gh) ∧ w'.cell? ⟨cf, 2, none⟩ = some (.slice kw cz.length gn)) ∧ (Kd.R (Kd.int .i64) 3 w' w.heap.size (fun k_ => some k_ ≠ (.slice em bl.length dw : Value).ownBlock) s_.1 jv) ∧ (Kd.S (Kd.slice 3 (Kd.int .i64)) 22 w' w.heap.size (fun k_ => some k_ ≠ (s_.1 : Value).ownBlock ∧ some k_ ≠ (.slice em bl.length dw : Value).ownBlock ∧ some k_ ≠ (.slice il cg.length gh : Value).ownBlock) s_.2.1 ki) ∧ (Kd.Q k25 25 w' w.heap.size (fun k_ => some k_ ≠ (s_.1 : Value).ownBlock ∧ some k_ ≠ (s_.2.1 : Value).ownBlock ∧ some k_ ≠ (.slice em bl.length dw : Value).ownBlock ∧ some k_ ≠ (.slice il cg.length gh : Value).ownBlock ∧ some k_ ≠ (.slice kw cz.length gn : Value).ownBlock) s_.2.2.1 kx) ∧ (Kd.R (Kd.int .i64) 3 w' w.heap.size (fun k_ => some k_ ≠ (s_.1 : Value).ownBlock) (.slice em bl.length dw) bl) ∧ (Kd.S (Kd.slice 3 (Kd.int .i64)) 22 w' w.heap.size (fun k_ => some k_ ≠ (s_.1 : Value).ownBlock ∧ some k_ ≠ (s_.2.1 : Value).ownBlock ∧ some k_ ≠ (.slice em bl.length dw : Value).ownBlock) (.slice il cg.length gh) cg) ∧ (Kd.Q k25 25 w' w.heap.size (fun k_ => some k_ ≠ (s_.1 : Value).ownBlock ∧ some k_ ≠ (s_.2.1 : Value).ownBlock ∧ some k_ ≠ (s_.2.2.1 : Value).ownBlock ∧ some k_ ≠ (.slice em bl.length dw : Value).ownBlock ∧ some k_ ≠ (.slice il cg.length gh : Value).ownBlock) (.slice kw cz.length gn) cz) ∧ (w'.heap[cy]? = some (.cells #[.slice none 0 0, .slice none 0 0, .slice none 0 0] 28 (0, 0))) ∧ (w'.heap[cf]? = some (.cells #[.slice em bl.length dw, .slice il cg.length gh, .slice kw cz.length gn] 28 (0, 0))) ∧ (w'.heap[s_.2.2.2]? = some (.cells #[.slice none 0 0, .slice none 0 0, .slice none 0 0] 28 (0, 0))) ∧ (w.heap.size ≤ s_.2.2.2) ∧ (w0.heap.size ≤ s_.2.2.2) ∧ (g ≠ s_.2.2.2) ∧ (s_.2.2.2 ≠ g) ∧ (cy ≠ s_.2.2.2) ∧ (s_.2.2.2 ≠ cy) ∧ (cf ≠ s_.2.2.2) ∧ (s_.2.2.2 ≠ cf) ∧ (IsS112 w0 w' g ac l4) ∧ (KeepBut w w' g none) ∧ (Below w0.heap.size w0 w')) ?_ ?_
     rotate_left
     ·intro hCont
      refine two_ (i := 3) (j := 8) (Ni := some 22) (Nj := some 7) (tl_ 11 15) (tl_ 11 263) rfl rfl rfl rfl (two_of HT_.out (g1_)) (by decide) (by decide) (fun K hK => ?_) (fun K hK => ?_)
      ·skip
       refine goes_ Try.func103 (g1_) rfl #[.pointer (some ⟨g, 0, none⟩), .agg #[.slice em bl.length dw, .slice il cg.length gh, .slice kw cz.length gn]] (by rfl) rfl rfl (g2_) ?_
       with_reducible refine (spec_l20Deed.calls k1 g ac dp _ _ bl _ _ cg _ _ cz lx ly lz l3 l4 w0 _ ?side1 ?side2 ?side3 ?side4 ?side5 ?side6 ?side7 ?side8 ?side9 A15.out).mono ?_
       (case side1 => exact bi)
       (case side2 => exact e6)
       (case side3 => repeat (first | exact (Kd.R_reads' aw.out).2.2 | (with_reducible refine Kd.C_alloc ?_ _) | (with_reducible refine Kd.C_drewN ?_ _) | (with_reducible refine Kd.C_drew ?_)))
       (case side4 => exact (Kd.R_reads' aw.out).2.1)
       (case side5 => exact far_slice (IsS112.own_ne HI0.out aw.out (by decide)))
       (case side6 => exact Kd.C_foot_own ((Kd.S_R (IsS112.apartS (show IsS112 w0 _ g ac dp from bi) (uf3_ bc) (by decide)))) (fun _ h_ => h_.2))
       (case side7 => exact (Kd.S_reads' bc.out).2.1)
       (case side8 => exact Kd.C_foot_ownQ (IsS112.apartQ (show IsS112 w0 _ g ac dp from bi) (uf6_ bf) (by decide)) (fun _ h_ => h_.2))
       (case side9 => exact (Kd.Q_reads' bf.out).2.1)
       rintro e qp ⟨rfl, hi, hb, hk⟩
       refine ⟨_, rfl, ?_⟩
       replace aw := Aside0.mk (Kd.R_mono (Kd.R_keep (IsS112.apart (show IsS112 w0 _ g ac dp from bi) (uf2_ aw) (by decide)) hk (fun _ h => h.2)) (fun _ h => h.1))
       replace bc := Aside0.mk (Kd.S_mono (Kd.S_keep (IsS112.apartS (show IsS112 w0 _ g ac dp from bi) (uf3_ bc) (by decide)) hk (fun _ h => h.2)) (fun _ h => h.1))
       replace bf := Aside0.mk (Kd.Q_mono (Kd.Q_keep (IsS112.apartQ (show IsS112 w0 _ g ac dp from bi) (uf6_ bf) (by decide)) hk (fun _ h => h.2)) (fun _ h => h.1))
       replace bj := kb_ hk bj mr
       replace al := kb_ hk al ms
       replace HK := Aside0.mk (KeepBut.trans (da) hk (.inl rfl))
       replace HB := Aside0.mk (hb)
       replace HI0 := Aside0.mk (hi)
       (try clear hb)
       (try clear hk hi)
       refine hK.out _ _ ⟨(blk_cell al.out 0).trans rfl, (blk_cell al.out 1).trans rfl, (blk_cell al.out 2).trans rfl⟩ (fun hHeld => ?_)
       clear hK K
       refine nm_ ?_
       refine two_ (i := 4) (j := 8) (Ni := some 23) (Nj := some 7) (tl_ 11 31) (tl_ 11 271) rfl rfl rfl rfl (two_of HT_.out (g1_)) (by decide) (by decide) (fun K hK => ?_) (fun K hK => ?_)
       ·skip
        refine goes_ Try.func54 (g1_) rfl #[.agg #[.slice em bl.length dw, .slice il cg.length gh, .slice kw cz.length gn], .agg #[.int .i64 lx, .int .i64 ly, .int .i64 lz, .int .i64 l3]] (by rfl) rfl rfl (g2_) ?_
        with_reducible refine (spec_DeskDo.calls k1 _ _ bl _ _ cg _ _ cz lx ly lz l3 jv ki kx true _ ?side1 ?side2 ?side3 ?side4 ?side5 ?side6 ya.out).mono ?_
        (case side1 => repeat (first | exact (Kd.R_reads' aw.out).2.2 | (with_reducible refine Kd.C_alloc ?_ _) | (with_reducible refine Kd.C_drewN ?_ _) | (with_reducible refine Kd.C_drew ?_)))
        (case side2 => exact (Kd.R_reads' aw.out).2.1)
        (case side3 => repeat (first | exact (Kd.S_reads' bc.out).2.2 | (with_reducible refine Kd.C_alloc ?_ _) | (with_reducible refine Kd.C_drewN ?_ _) | (with_reducible refine Kd.C_drew ?_)))
        (case side4 => exact (Kd.S_reads' bc.out).2.1)
        (case side5 => repeat (first | exact (Kd.Q_reads' bf.out).2.2 | (with_reducible refine Kd.C_alloc ?_ _) | (with_reducible refine Kd.C_drewN ?_ _) | (with_reducible refine Kd.C_drew ?_)))
        (case side6 => exact (Kd.Q_reads' bf.out).2.1)
        rintro e w23 ⟨jf, ky, mt, rfl, am, ba, d3, hb⟩
        refine ⟨_, rfl, ?_⟩
        have ob := Aside0.mk (Kd.R_lower (Kd.R_new' am (Kd.R_lt (uf2_ aw))) (keep_size (w := w) (g := g) (row := none) (da)))
        have oc := Aside0.mk (Kd.S_lower (Kd.S_new' (Kd.S_new' ba (Kd.R_lt (uf2_ aw))) (Kd.S_lt (uf3_ bc))) (keep_size (w := w) (g := g) (row := none) (da)))
        have od := Aside0.mk (Kd.Q_lower (Kd.Q_new' (Kd.Q_new' (Kd.Q_new' d3 (Kd.R_lt (uf2_ aw))) (Kd.S_lt (uf3_ bc))) (Kd.Q_lt (uf6_ bf))) (keep_size (w := w) (g := g) (row := none) (da)))
        replace aw := Aside0.mk (Kd.R_elder' (uf2_ aw) (Kd.R_base am) hb)
        replace bc := Aside0.mk (Kd.S_mono (Kd.S_told (Kd.S_told (Kd.S_old (uf3_ bc) hb) (Kd.R_base am)) (Kd.S_base ba)) (fun _ h_ => h_.1))
        replace bf := Aside0.mk (Kd.Q_mono (Kd.Q_told (Kd.Q_told (Kd.Q_told (Kd.Q_old (uf6_ bf) hb) (Kd.R_base am)) (Kd.S_base ba)) (Kd.Q_base d3)) (fun _ h_ => h_.1))
        replace bj := bb_ bj hb
        replace al := bb_ al hb
        replace HK := Aside0.mk (KeepBut.trans (da) (KeepBut.of_below hb g none) (.inl rfl))
        replace HB := Aside0.mk (below_step (e6) hb)
        replace HI0 := Aside0.mk (IsS112.below (bi) hb)
        (try clear hb)
        (try clear hk hi)
        (try clear am)
        (try clear ba)
        (try clear d3)
        refine hK.out _ _ ⟨(blk_cell al.out 0).trans rfl, (blk_cell al.out 1).trans rfl, (blk_cell al.out 2).trans rfl⟩ (fun hHeld => ?_)
        clear hK K
        refine nm_ ?_
        refine pw_ 5 18 (tl_ 11 63) rfl rfl ?_
        refine pw_ 6 24 (tl_ 11 127) rfl rfl ?_
        refine pw_ 7 25 (tl_ 11 255) rfl rfl ?_
        refine one_ (i := 8) (N := some 7) (tl_ 11 511) rfl rfl (one_of HT_.out (g1_)) (by decide) (fun K hK => ?_)
        refine bs_ (N := 7) #[.slice none 0 0, .slice none 0 0, .slice none 0 0] 28 ?_
        intro bb hg w24 hbox hb
        replace aw := Aside0.mk (Kd.R_below (uf2_ aw) hb)
        replace bc := Aside0.mk (Kd.S_below (uf3_ bc) hb)
        replace bf := Aside0.mk (Kd.Q_below (uf6_ bf) hb)
        replace ob := Aside0.mk (Kd.R_below (uf2_ ob) hb)
        replace oc := Aside0.mk (Kd.S_below (uf3_ oc) hb)
        replace od := Aside0.mk (Kd.Q_below (uf6_ od) hb)
        replace HB := Aside0.mk (below_step (e6) hb)
        have ex := Aside0.mk (hbox)
        have o3 := Aside0.mk ((g11_ : w.heap.size ≤ bb))
        have o4 := Aside0.mk ((Nat.le_trans HW0.out (g11_ : w.heap.size ≤ bb) : w0.heap.size ≤ bb))
        replace HK := Aside0.mk (KeepBut.trans (da) (KeepBut.of_below hb g none) (.inl rfl))
        have i3 := Aside0.mk ((g36_ : cy ≠ bb))
        have ld := Aside0.mk ((g37_ : bb ≠ cy))
        replace bj := bb_ bj hb
        have ey := Aside0.mk ((g102_ : cf ≠ bb))
        have lf := Aside0.mk ((g103_ : bb ≠ cf))
        replace al := bb_ al hb
        have oa := Aside0.mk ((by rw [hg]; exact Nat.ne_of_lt (IsS112.lt (show IsS112 w0 _ g ac l4 from bi)) : g ≠ bb))
        have nl := Aside0.mk ((by rw [hg]; exact Nat.ne_of_gt (IsS112.lt (show IsS112 w0 _ g ac l4 from bi)) : bb ≠ g))
        replace HI0 := Aside0.mk (IsS112.below (bi) hb)
        clear hb hbox hg
        refine hK.out _ _ ⟨(blk_cell al.out 0).trans rfl, (blk_cell al.out 1).trans rfl, (blk_cell al.out 2).trans rfl⟩ (fun hHeld => ?_)
        clear hK K
        refine nm_ ?_
        exact norm_ (g21_) (hCont (jf, ky, mt, bb) _ ⟨hHeld, (g53_), (g54_), (g55_), (g56_), (g57_), (g58_), (uf0_ bj), (uf0_ al), (uf0_ ex), o3.out, o4.out, oa.out, nl.out, i3.out, ld.out, ey.out, lf.out, (bi), (da), (e6)⟩)
       ·skip
        refine bs_ (N := 7) #[.slice none 0 0, .slice none 0 0, .slice none 0 0] 28 ?_
        intro bb hg w23 hbox hb
        replace aw := Aside0.mk (Kd.R_below (uf2_ aw) hb)
        replace bc := Aside0.mk (Kd.S_below (uf3_ bc) hb)
        replace bf := Aside0.mk (Kd.Q_below (uf6_ bf) hb)
        replace HB := Aside0.mk (below_step (e6) hb)
        have ex := Aside0.mk (hbox)
        have o3 := Aside0.mk ((g11_ : w.heap.size ≤ bb))
        have o4 := Aside0.mk ((Nat.le_trans HW0.out (g11_ : w.heap.size ≤ bb) : w0.heap.size ≤ bb))
        replace HK := Aside0.mk (KeepBut.trans (da) (KeepBut.of_below hb g none) (.inl rfl))
        have i3 := Aside0.mk ((g36_ : cy ≠ bb))
        have ld := Aside0.mk ((g37_ : bb ≠ cy))
        replace bj := bb_ bj hb
        have ey := Aside0.mk ((g102_ : cf ≠ bb))
        have lf := Aside0.mk ((g103_ : bb ≠ cf))
        replace al := bb_ al hb
        have oa := Aside0.mk ((by rw [hg]; exact Nat.ne_of_lt (IsS112.lt (show IsS112 w0 _ g ac l4 from bi)) : g ≠ bb))
        have nl := Aside0.mk ((by rw [hg]; exact Nat.ne_of_gt (IsS112.lt (show IsS112 w0 _ g ac l4 from bi)) : bb ≠ g))
        replace HI0 := Aside0.mk (IsS112.below (bi) hb)
        clear hb hbox hg
        refine hK.out _ _ ⟨(blk_cell al.out 0).trans rfl, (blk_cell al.out 1).trans rfl, (blk_cell al.out 2).trans rfl⟩ (fun hHeld => ?_)
        clear hK K
        refine nm_ ?_
        refine one_ (i := 4) (N := some 23) (tl_ 11 287) rfl rfl (one_of HT_.out (g1_)) (by decide) (fun K hK => ?_)
        refine goes_ Try.func54 (g1_) rfl #[.agg #[.slice em bl.length dw, .slice il cg.length gh, .slice kw cz.length gn], .agg #[.int .i64 lx, .int .i64 ly, .int .i64 lz, .int .i64 l3]] (by rfl) rfl rfl (g2_) ?_
        with_reducible refine (spec_DeskDo.calls k1 _ _ bl _ _ cg _ _ cz lx ly lz l3 jv ki kx true _ ?side1 ?side2 ?side3 ?side4 ?side5 ?side6 ya.out).mono ?_
        (case side1 => repeat (first | exact (Kd.R_reads' aw.out).2.2 | (with_reducible refine Kd.C_alloc ?_ _) | (with_reducible refine Kd.C_drewN ?_ _) | (with_reducible refine Kd.C_drew ?_)))
        (case side2 => exact (Kd.R_reads' aw.out).2.1)
        (case side3 => repeat (first | exact (Kd.S_reads' bc.out).2.2 | (with_reducible refine Kd.C_alloc ?_ _) | (with_reducible refine Kd.C_drewN ?_ _) | (with_reducible refine Kd.C_drew ?_)))
        (case side4 => exact (Kd.S_reads' bc.out).2.1)
        (case side5 => repeat (first | exact (Kd.Q_reads' bf.out).2.2 | (with_reducible refine Kd.C_alloc ?_ _) | (with_reducible refine Kd.C_drewN ?_ _) | (with_reducible refine Kd.C_drew ?_)))
        (case side6 => exact (Kd.Q_reads' bf.out).2.1)
        rintro e w24 ⟨jf, ky, mt, rfl, am, ba, d3, hb⟩
        refine ⟨_, rfl, ?_⟩
        have ob := Aside0.mk (Kd.R_lower (Kd.R_new' am (Kd.R_lt (uf2_ aw))) (keep_size (w := w) (g := g) (row := none) (da)))
        have oc := Aside0.mk (Kd.S_lower (Kd.S_new' (Kd.S_new' ba (Kd.R_lt (uf2_ aw))) (Kd.S_lt (uf3_ bc))) (keep_size (w := w) (g := g) (row := none) (da)))
        have od := Aside0.mk (Kd.Q_lower (Kd.Q_new' (Kd.Q_new' (Kd.Q_new' d3 (Kd.R_lt (uf2_ aw))) (Kd.S_lt (uf3_ bc))) (Kd.Q_lt (uf6_ bf))) (keep_size (w := w) (g := g) (row := none) (da)))
        replace aw := Aside0.mk (Kd.R_elder' (uf2_ aw) (Kd.R_base am) hb)
        replace bc := Aside0.mk (Kd.S_mono (Kd.S_told (Kd.S_told (Kd.S_old (uf3_ bc) hb) (Kd.R_base am)) (Kd.S_base ba)) (fun _ h_ => h_.1))
        replace bf := Aside0.mk (Kd.Q_mono (Kd.Q_told (Kd.Q_told (Kd.Q_told (Kd.Q_old (uf6_ bf) hb) (Kd.R_base am)) (Kd.S_base ba)) (Kd.Q_base d3)) (fun _ h_ => h_.1))
        replace bj := bb_ bj hb
        replace al := bb_ al hb
        replace ex := bb_ ex hb
        replace HK := Aside0.mk (KeepBut.trans (da) (KeepBut.of_below hb g none) (.inl rfl))
        replace HB := Aside0.mk (below_step (e6) hb)
        replace HI0 := Aside0.mk (IsS112.below (bi) hb)
        (try clear hb)
        (try clear hk hi)
        (try clear am)
        (try clear ba)
        (try clear d3)
        refine hK.out _ _ ⟨(blk_cell al.out 0).trans rfl, (blk_cell al.out 1).trans rfl, (blk_cell al.out 2).trans rfl⟩ (fun hHeld => ?_)
        clear hK K
        refine nm_ ?_
        refine pw_ 5 18 (tl_ 11 319) rfl rfl ?_
        refine pw_ 6 24 (tl_ 11 383) rfl rfl ?_
        refine pw_ 7 25 (tl_ 11 511) rfl rfl ?_
        exact norm_ (g21_) (hCont (jf, ky, mt, bb) _ ⟨hHeld, (g53_), (g54_), (g55_), (g56_), (g57_), (g58_), (uf0_ bj), (uf0_ al), (uf0_ ex), o3.out, o4.out, oa.out, nl.out, i3.out, ld.out, ey.out, lf.out, (bi), (da), (e6)⟩)
      ·skip
       refine bs_ (N := 7) #[.slice none 0 0, .slice none 0 0, .slice none 0 0] 28 ?_
       intro bb hg qp hbox hb
       replace aw := Aside0.mk (Kd.R_below (uf2_ aw) hb)
       replace bc := Aside0.mk (Kd.S_below (uf3_ bc) hb)
       replace bf := Aside0.mk (Kd.Q_below (uf6_ bf) hb)
       replace HB := Aside0.mk (below_step (e6) hb)
       have ex := Aside0.mk (hbox)
       have o3 := Aside0.mk ((g11_ : w.heap.size ≤ bb))
       have o4 := Aside0.mk ((Nat.le_trans HW0.out (g11_ : w.heap.size ≤ bb) : w0.heap.size ≤ bb))
       replace HK := Aside0.mk (KeepBut.trans (da) (KeepBut.of_below hb g none) (.inl rfl))
       have i3 := Aside0.mk ((g36_ : cy ≠ bb))
       have ld := Aside0.mk ((g37_ : bb ≠ cy))
       replace bj := bb_ bj hb
       have ey := Aside0.mk ((g102_ : cf ≠ bb))
       have lf := Aside0.mk ((g103_ : bb ≠ cf))
       replace al := bb_ al hb
       have oa := Aside0.mk ((by rw [hg]; exact Nat.ne_of_lt (IsS112.lt (show IsS112 w0 _ g ac dp from bi)) : g ≠ bb))
       have nl := Aside0.mk ((by rw [hg]; exact Nat.ne_of_gt (IsS112.lt (show IsS112 w0 _ g ac dp from bi)) : bb ≠ g))
       replace HI0 := Aside0.mk (IsS112.below (bi) hb)
       clear hb hbox hg
       refine hK.out _ _ ⟨(blk_cell al.out 0).trans rfl, (blk_cell al.out 1).trans rfl, (blk_cell al.out 2).trans rfl⟩ (fun hHeld => ?_)
       clear hK K
       refine nm_ ?_
       refine one_ (i := 3) (N := some 22) (tl_ 11 271) rfl rfl (one_of HT_.out (g1_)) (by decide) (fun K hK => ?_)
       refine goes_ Try.func103 (g1_) rfl #[.pointer (some ⟨g, 0, none⟩), .agg #[.slice em bl.length dw, .slice il cg.length gh, .slice kw cz.length gn]] (by rfl) rfl rfl (g2_) ?_
       with_reducible refine (spec_l20Deed.calls k1 g ac dp _ _ bl _ _ cg _ _ cz lx ly lz l3 l4 w0 _ ?side1 ?side2 ?side3 ?side4 ?side5 ?side6 ?side7 ?side8 ?side9 A15.out).mono ?_
       (case side1 => exact bi)
       (case side2 => exact e6)
       (case side3 => repeat (first | exact (Kd.R_reads' aw.out).2.2 | (with_reducible refine Kd.C_alloc ?_ _) | (with_reducible refine Kd.C_drewN ?_ _) | (with_reducible refine Kd.C_drew ?_)))
       (case side4 => exact (Kd.R_reads' aw.out).2.1)
       (case side5 => exact far_slice (IsS112.own_ne HI0.out aw.out (by decide)))
       (case side6 => exact Kd.C_foot_own ((Kd.S_R (IsS112.apartS (show IsS112 w0 _ g ac dp from bi) (uf3_ bc) (by decide)))) (fun _ h_ => h_.2))
       (case side7 => exact (Kd.S_reads' bc.out).2.1)
       (case side8 => exact Kd.C_foot_ownQ (IsS112.apartQ (show IsS112 w0 _ g ac dp from bi) (uf6_ bf) (by decide)) (fun _ h_ => h_.2))
       (case side9 => exact (Kd.Q_reads' bf.out).2.1)
       rintro e w23 ⟨rfl, hi, hb, hk⟩
       refine ⟨_, rfl, ?_⟩
       replace aw := Aside0.mk (Kd.R_mono (Kd.R_keep (IsS112.apart (show IsS112 w0 _ g ac dp from bi) (uf2_ aw) (by decide)) hk (fun _ h => h.2)) (fun _ h => h.1))
       replace bc := Aside0.mk (Kd.S_mono (Kd.S_keep (IsS112.apartS (show IsS112 w0 _ g ac dp from bi) (uf3_ bc) (by decide)) hk (fun _ h => h.2)) (fun _ h => h.1))
       replace bf := Aside0.mk (Kd.Q_mono (Kd.Q_keep (IsS112.apartQ (show IsS112 w0 _ g ac dp from bi) (uf6_ bf) (by decide)) hk (fun _ h => h.2)) (fun _ h => h.1))
       replace bj := kb_ hk bj mr
       replace al := kb_ hk al ms
       replace ex := kb_ hk ex nl
       replace HK := Aside0.mk (KeepBut.trans (da) hk (.inl rfl))
       replace HB := Aside0.mk (hb)
       replace HI0 := Aside0.mk (hi)
       (try clear hb)
       (try clear hk hi)
       refine hK.out _ _ ⟨(blk_cell al.out 0).trans rfl, (blk_cell al.out 1).trans rfl, (blk_cell al.out 2).trans rfl⟩ (fun hHeld => ?_)
       clear hK K
       refine nm_ ?_
       refine one_ (i := 4) (N := some 23) (tl_ 11 287) rfl rfl (one_of HT_.out (g1_)) (by decide) (fun K hK => ?_)
       refine goes_ Try.func54 (g1_) rfl #[.agg #[.slice em bl.length dw, .slice il cg.length gh, .slice kw cz.length gn], .agg #[.int .i64 lx, .int .i64 ly, .int .i64 lz, .int .i64 l3]] (by rfl) rfl rfl (g2_) ?_
       with_reducible refine (spec_DeskDo.calls k1 _ _ bl _ _ cg _ _ cz lx ly lz l3 jv ki kx true _ ?side1 ?side2 ?side3 ?side4 ?side5 ?side6 ya.out).mono ?_
       (case side1 => repeat (first | exact (Kd.R_reads' aw.out).2.2 | (with_reducible refine Kd.C_alloc ?_ _) | (with_reducible refine Kd.C_drewN ?_ _) | (with_reducible refine Kd.C_drew ?_)))
       (case side2 => exact (Kd.R_reads' aw.out).2.1)
       (case side3 => repeat (first | exact (Kd.S_reads' bc.out).2.2 | (with_reducible refine Kd.C_alloc ?_ _) | (with_reducible refine Kd.C_drewN ?_ _) | (with_reducible refine Kd.C_drew ?_)))
       (case side4 => exact (Kd.S_reads' bc.out).2.1)
       (case side5 => repeat (first | exact (Kd.Q_reads' bf.out).2.2 | (with_reducible refine Kd.C_alloc ?_ _) | (with_reducible refine Kd.C_drewN ?_ _) | (with_reducible refine Kd.C_drew ?_)))
       (case side6 => exact (Kd.Q_reads' bf.out).2.1)
       rintro e w24 ⟨jf, ky, mt, rfl, am, ba, d3, hb⟩
       refine ⟨_, rfl, ?_⟩
       have ob := Aside0.mk (Kd.R_lower (Kd.R_new' am (Kd.R_lt (uf2_ aw))) (keep_size (w := w) (g := g) (row := none) (da)))
       have oc := Aside0.mk (Kd.S_lower (Kd.S_new' (Kd.S_new' ba (Kd.R_lt (uf2_ aw))) (Kd.S_lt (uf3_ bc))) (keep_size (w := w) (g := g) (row := none) (da)))
       have od := Aside0.mk (Kd.Q_lower (Kd.Q_new' (Kd.Q_new' (Kd.Q_new' d3 (Kd.R_lt (uf2_ aw))) (Kd.S_lt (uf3_ bc))) (Kd.Q_lt (uf6_ bf))) (keep_size (w := w) (g := g) (row := none) (da)))
       replace aw := Aside0.mk (Kd.R_elder' (uf2_ aw) (Kd.R_base am) hb)
       replace bc := Aside0.mk (Kd.S_mono (Kd.S_told (Kd.S_told (Kd.S_old (uf3_ bc) hb) (Kd.R_base am)) (Kd.S_base ba)) (fun _ h_ => h_.1))
       replace bf := Aside0.mk (Kd.Q_mono (Kd.Q_told (Kd.Q_told (Kd.Q_told (Kd.Q_old (uf6_ bf) hb) (Kd.R_base am)) (Kd.S_base ba)) (Kd.Q_base d3)) (fun _ h_ => h_.1))
       replace bj := bb_ bj hb
       replace al := bb_ al hb
       replace ex := bb_ ex hb
       replace HK := Aside0.mk (KeepBut.trans (da) (KeepBut.of_below hb g none) (.inl rfl))
       replace HB := Aside0.mk (below_step (e6) hb)
       replace HI0 := Aside0.mk (IsS112.below (bi) hb)
       (try clear hb)
       (try clear hk hi)
       (try clear am)
       (try clear ba)
       (try clear d3)
       refine hK.out _ _ ⟨(blk_cell al.out 0).trans rfl, (blk_cell al.out 1).trans rfl, (blk_cell al.out 2).trans rfl⟩ (fun hHeld => ?_)
       clear hK K
       refine nm_ ?_
       refine pw_ 5 18 (tl_ 11 319) rfl rfl ?_
       refine pw_ 6 24 (tl_ 11 383) rfl rfl ?_
       refine pw_ 7 25 (tl_ 11 511) rfl rfl ?_
       exact norm_ (g21_) (hCont (jf, ky, mt, bb) _ ⟨hHeld, (g53_), (g54_), (g55_), (g56_), (g57_), (g58_), (uf0_ bj), (uf0_ al), (uf0_ ex), o3.out, o4.out, oa.out, nl.out, i3.out, ld.out, ey.out, lf.out, (bi), (da), (e6)⟩)
     rintro ⟨jf, ky, mt, bb⟩ kl ⟨hS_, h0_, h1_, h2_, h3_, h4_, h5_, h6_, h7_, h8_, h9_, h10_, h11_, h12_, h13_, h14_, h15_, h16_, h17_, h18_, h19_⟩
     have ob : Aside0 (Kd.R (Kd.int .i64) 3 kl w.heap.size (fun k_ => some k_ ≠ (.slice em bl.length dw : Value).ownBlock) jf jv) := ⟨h0_⟩
     have oc : Aside0 (Kd.S (Kd.slice 3 (Kd.int .i64)) 22 kl w.heap.size (fun k_ => some k_ ≠ (jf : Value).ownBlock ∧ some k_ ≠ (.slice em bl.length dw : Value).ownBlock ∧ some k_ ≠ (.slice il cg.length gh : Value).ownBlock) ky ki) := ⟨h1_⟩
     have od : Aside0 (Kd.Q k25 25 kl w.heap.size (fun k_ => some k_ ≠ (jf : Value).ownBlock ∧ some k_ ≠ (ky : Value).ownBlock ∧ some k_ ≠ (.slice em bl.length dw : Value).ownBlock ∧ some k_ ≠ (.slice il cg.length gh : Value).ownBlock ∧ some k_ ≠ (.slice kw cz.length gn : Value).ownBlock) mt kx) := ⟨h2_⟩
     replace aw : Aside0 (Kd.R (Kd.int .i64) 3 kl w.heap.size (fun k_ => some k_ ≠ (jf : Value).ownBlock) (.slice em bl.length dw) bl) := ⟨h3_⟩
     replace bc : Aside0 (Kd.S (Kd.slice 3 (Kd.int .i64)) 22 kl w.heap.size (fun k_ => some k_ ≠ (jf : Value).ownBlock ∧ some k_ ≠ (ky : Value).ownBlock ∧ some k_ ≠ (.slice em bl.length dw : Value).ownBlock) (.slice il cg.length gh) cg) := ⟨h4_⟩
     replace bf : Aside0 (Kd.Q k25 25 kl w.heap.size (fun k_ => some k_ ≠ (jf : Value).ownBlock ∧ some k_ ≠ (ky : Value).ownBlock ∧ some k_ ≠ (mt : Value).ownBlock ∧ some k_ ≠ (.slice em bl.length dw : Value).ownBlock ∧ some k_ ≠ (.slice il cg.length gh : Value).ownBlock) (.slice kw cz.length gn) cz) := ⟨h5_⟩
     replace bj : Aside0 (kl.heap[cy]? = some (.cells #[.slice none 0 0, .slice none 0 0, .slice none 0 0] 28 (0, 0))) := ⟨h6_⟩
     replace al : Aside0 (kl.heap[cf]? = some (.cells #[.slice em bl.length dw, .slice il cg.length gh, .slice kw cz.length gn] 28 (0, 0))) := ⟨h7_⟩
     have ex : Aside0 (kl.heap[bb]? = some (.cells #[.slice none 0 0, .slice none 0 0, .slice none 0 0] 28 (0, 0))) := ⟨h8_⟩
     have o3 : Aside0 (w.heap.size ≤ bb) := ⟨h9_⟩
     have o4 : Aside0 (w0.heap.size ≤ bb) := ⟨h10_⟩
     have oa : Aside0 (g ≠ bb) := ⟨h11_⟩
     have nl : Aside0 (bb ≠ g) := ⟨h12_⟩
     have i3 : Aside0 (cy ≠ bb) := ⟨h13_⟩
     have ld : Aside0 (bb ≠ cy) := ⟨h14_⟩
     have ey : Aside0 (cf ≠ bb) := ⟨h15_⟩
     have lf : Aside0 (bb ≠ cf) := ⟨h16_⟩
     replace HI0 : Aside0 (IsS112 w0 kl g ac l4) := ⟨h17_⟩
     replace HK : Aside0 (KeepBut w kl g none) := ⟨h18_⟩
     replace HB : Aside0 (Below w0.heap.size w0 kl) := ⟨h19_⟩
     clear h0_ h1_ h2_ h3_ h4_ h5_ h6_ h7_ h8_ h9_ h10_ h11_ h12_ h13_ h14_ h15_ h16_ h17_ h18_ h19_
     have hHeld : kl.cell? ⟨cf, 0, none⟩ = some (.slice em bl.length dw) ∧ kl.cell? ⟨cf, 1, none⟩ = some (.slice il cg.length gh) ∧ kl.cell? ⟨cf, 2, none⟩ = some (.slice kw cz.length gn) := hS_
     obtain ⟨i6, iq, u4⟩ := Kd.R_slice ob.out
     (first | subst u4 | (injection u4 with f1_ f2_ f3_; have f4_ := f1_.symm; have f5_ := f3_.symm; clear f1_ f2_ f3_; subst f4_; subst f5_))
     obtain ⟨pg, nv, aa7⟩ := Kd.S_slice oc.out
     (first | subst aa7 | (injection aa7 with f1_ f2_ f3_; have f4_ := f1_.symm; have f5_ := f3_.symm; clear f1_ f2_ f3_; subst f4_; subst f5_))
     obtain ⟨fy, fz, az2, _⟩ := Kd.Q_slice od.out
     (first | subst az2 | (injection az2 with f1_ f2_ f3_; have f4_ := f1_.symm; have f5_ := f3_.symm; clear f1_ f2_ f3_; subst f4_; subst f5_))
     refine norm_ (a' := ?_) ?_ ?_
     rotate_left
     ·simp only [putAll, Act.put, List.setIfInBounds_toArray, List.set_cons_zero, List.set_cons_succ]
      rfl
     refine one_ (i := 9) (N := none) (tl_ 11 1023) rfl rfl (one_of HT_.out (g1_)) (by decide) (fun K hK => ?_)
     have ec6 : kl.cell? ⟨bb, 0, none⟩ = some (.slice none 0 0) := (blk_cell ex.out 0).trans rfl
     have ec7 := blk_frozen ex.out 0
     have ec8 := i3.out
     have ec9 := ey.out
     have ed0 := ld.out
     have ed1 := lf.out
     have ea8 : kl.cell? ⟨bb, 1, none⟩ = some (.slice none 0 0) := (blk_cell ex.out 1).trans rfl
     have ea9 := blk_frozen ex.out 1
     have eb0 := i3.out
     have eb1 := ey.out
     have eb2 := ld.out
     have eb3 := lf.out
     have fh4 : kl.cell? ⟨bb, 2, none⟩ = some (.slice none 0 0) := (blk_cell ex.out 2).trans rfl
     have fh5 := blk_frozen ex.out 2
     have fh6 := i3.out
     have hl4 := ey.out
     have fh7 := ld.out
     have hl5 := lf.out
     refine skip_ (w1 := ?_) (by rfl) rfl ?_ ?_
     rotate_left
     ·go_simp
      rfl
     refine hK.out _ _ ⟨(cf_ ey ((cf_ ey ((cf_ ey (hHeld.1)))))), (cf_ ey ((cf_ ey ((cf_ ey (hHeld.2.1)))))), (cf_ ey ((cf_ ey ((cf_ ey (hHeld.2.2))))))⟩ (fun hHeld => ?_)
     clear hK K
     refine pw_ 10 8 (tl_ 11 2047) rfl rfl ?_
     refine done_ (done_of HT_.out (g1_)) ?_
     have cf4 := ld.out
     have cf5 := i3.out
     have bf6 := lf.out
     have bf7 := ey.out
     have dg8 := nl.out
     have dg9 := oa.out
     obtain ⟨ai0, ai1, ax5, ai2, ai3, ax6⟩ := blk3_ ex
     have dh0 := af8.out
     have dh1 := o5.out
     have dh2 := ms.out
     have dh3 := am3.out
     obtain ⟨at1, at2, cl9, at3, at4, cm0⟩ := blk3_ al
     try go_wp2
     go_roundg k1
     case measure => have := HK1.out; omega
     case rel => exact ⟨(wrap64 (j4 - 1)), (l4), (jv), (ki), (kx), (.slice i6 jv.length iq), (.slice pg ki.length nv), (.slice fy kx.length fz), (g3_), H', ⟨g15_⟩, ⟨by (with_reducible repeat (first | apply Kd.R_alloc | apply Kd.R_drewN | apply Kd.R_drew)); exact Kd.R_mono (Kd.R_far (p := ⟨cf, 2, none⟩) (Kd.R_far (p := ⟨cf, 1, none⟩) (Kd.R_far (p := ⟨cf, 0, none⟩) (Kd.R_far (p := ⟨bb, 2, none⟩) (Kd.R_far (p := ⟨bb, 1, none⟩) (Kd.R_far (p := ⟨bb, 0, none⟩) (Kd.R_types (Kd.R_types ob.out ex.out (by decide)) al.out (by decide)) (fun _ hk => hk.1.2) (.slice i6 jv.length iq)) (fun _ hk => hk.1.2) (.slice pg ki.length nv)) (fun _ hk => hk.1.2) (.slice fy kx.length fz)) (fun _ hk => hk.2) (.slice i6 jv.length iq)) (fun _ hk => hk.2) (.slice pg ki.length nv)) (fun _ hk => hk.2) (.slice fy kx.length fz)) (fun _ hk => trivial)⟩, ⟨by (with_reducible repeat (first | apply Kd.S_alloc | apply Kd.S_drewN | apply Kd.S_drew)); exact Kd.S_mono (Kd.S_far (p := ⟨cf, 2, none⟩) (Kd.S_far (p := ⟨cf, 1, none⟩) (Kd.S_far (p := ⟨cf, 0, none⟩) (Kd.S_far (p := ⟨bb, 2, none⟩) (Kd.S_far (p := ⟨bb, 1, none⟩) (Kd.S_far (p := ⟨bb, 0, none⟩) (Kd.S_types (Kd.S_types oc.out ex.out (by decide)) al.out (by decide)) (fun _ hk => hk.1.2) (.slice i6 jv.length iq)) (fun _ hk => hk.1.2) (.slice pg ki.length nv)) (fun _ hk => hk.1.2) (.slice fy kx.length fz)) (fun _ hk => hk.2) (.slice i6 jv.length iq)) (fun _ hk => hk.2) (.slice pg ki.length nv)) (fun _ hk => hk.2) (.slice fy kx.length fz)) (fun _ hk => hk.1.1.1)⟩, ⟨by (with_reducible repeat (first | apply Kd.Q_alloc | apply Kd.Q_drewN | apply Kd.Q_drew)); exact Kd.Q_mono (Kd.Q_far (p := ⟨cf, 2, none⟩) (Kd.Q_far (p := ⟨cf, 1, none⟩) (Kd.Q_far (p := ⟨cf, 0, none⟩) (Kd.Q_far (p := ⟨bb, 2, none⟩) (Kd.Q_far (p := ⟨bb, 1, none⟩) (Kd.Q_far (p := ⟨bb, 0, none⟩) (Kd.Q_types (Kd.Q_types od.out ex.out (by decide)) al.out (by decide)) (fun _ hk => hk.1.2) (.slice i6 jv.length iq)) (fun _ hk => hk.1.2) (.slice pg ki.length nv)) (fun _ hk => hk.1.2) (.slice fy kx.length fz)) (fun _ hk => hk.2) (.slice i6 jv.length iq)) (fun _ hk => hk.2) (.slice pg ki.length nv)) (fun _ hk => hk.2) (.slice fy kx.length fz)) (fun _ hk => ⟨hk.1.1.1, hk.1.1.2.1⟩)⟩, ⟨by (with_reducible repeat (first | refine blk_drewN ?_ _ | refine blk_drew ?_ | refine blk_alloc ?_ _)); refine blk_far ?_ o5.out _; refine blk_far ?_ o5.out _; refine blk_far ?_ o5.out _; refine blk_far ?_ i3.out _; refine blk_far ?_ i3.out _; refine blk_far ?_ i3.out _; exact uf0_ bj⟩, ⟨by (with_reducible repeat (first | refine blk_drewN ?_ _ | refine blk_drew ?_ | refine blk_alloc ?_ _)); refine blk_put (cs := #[.slice i6 jv.length iq, .slice pg ki.length nv, .slice kw cz.length gn]) ?_ 2 _ rfl; refine blk_put (cs := #[.slice i6 jv.length iq, .slice il cg.length gh, .slice kw cz.length gn]) ?_ 1 _ rfl; refine blk_put (cs := #[.slice em bl.length dw, .slice il cg.length gh, .slice kw cz.length gn]) ?_ 0 _ rfl; refine blk_far ?_ ey.out _; refine blk_far ?_ ey.out _; refine blk_far ?_ ey.out _; exact uf0_ al⟩, ⟨bi⟩, ⟨da⟩, ⟨e6⟩⟩
    ·replace fa := Bool.eq_false_iff.mpr fa
     subst fa
     replace H := ifn_ H
     have H' := Aside0.mk H
     clear H
     obtain ⟨fm, fi, yz⟩ := Kd.R_slice aw.out
     subst yz
     obtain ⟨kz, k0, fk7⟩ := Kd.S_slice bc.out
     subst fk7
     obtain ⟨js, jc, ad5, _⟩ := Kd.Q_slice bf.out
     subst ad5
     try go_wp2
     replace aw := Aside0.mk (Kd.R_drew aw.out)
     replace bc := Aside0.mk (Kd.S_drew bc.out)
     replace bf := Aside0.mk (Kd.Q_drew bf.out)
     replace bj := Aside0.mk (blk_drew bj.out)
     replace al := Aside0.mk (blk_drew al.out)
     replace HI0 := Aside0.mk (IsS112.drew HI0.out)
     replace HK := Aside0.mk (keep_drew HK.out)
     replace HB := Aside0.mk (below_drew1 HB.out)
     refine start_ (n := 11) (S := fun w' => w'.cell? ⟨cf, 0, none⟩ = some (.slice fm bl.length fi) ∧ w'.cell? ⟨cf, 1, none⟩ = some (.slice kz cg.length k0) ∧ w'.cell? ⟨cf, 2, none⟩ = some (.slice js cz.length jc)) (ds := []) (tl_ 11 0) (g1_) rfl (g1_) ⟨(blk_cell al.out 0).trans rfl, (blk_cell al.out 1).trans rfl, (blk_cell al.out 2).trans rfl⟩ (fun hHeld => ?_); refine with_tabW spec_l20Desk.tab5 spec_l20Desk.bits5 (fun HT_ HW_ => ?_)
     generalize wr.drew = w42 at aw bc bf bj al HI0 HK HB hHeld ⊢
     refine pw_ 1 20 (tl_ 11 2) rfl rfl ?_
     refine tk2_ 0 19 (tl_ 11 3) rfl rfl hHeld ?_
     refine tk2_ 2 21 (tl_ 11 7) rfl rfl hHeld ?_
     refine join_ (σ := Value × Value × Value × Nat) 2 (tl_ 11 511) (fun s_ => [(22, .agg #[.int .i64 lx, .int .i64 ly, .int .i64 lz, .int .i64 l3]), (23, .tuple #[.agg #[s_.1, s_.2.1, s_.2.2.1], .bool false]), (7, .pointer (some ⟨s_.2.2.2, 0, none⟩)), (18, .tuple #[.agg #[s_.1, s_.2.1, s_.2.2.1], .bool false]), (24, .agg #[s_.1, s_.2.1, s_.2.2.1]), (25, .bool false)]) (fun s_ w' => (w'.cell? ⟨cf, 0, none⟩ = some (.slice fm bl.length fi) ∧ w'.cell? ⟨cf, 1, none⟩ = some (.slice kz cg.length k0) ∧ w'.cell? ⟨cf, 2, none⟩ = some (.slice js cz.length jc)) ∧ (Kd.R (Kd.int .i64) 3 w' w.heap.size (fun k_ => some k_ ≠ (.slice fm bl.length fi : Value).ownBlock) s_.1 jv) ∧ (Kd.S (Kd.slice 3 (Kd.int .i64)) 22 w' w.heap.size (fun k_ => some k_ ≠ (s_.1 : Value).ownBlock ∧ some k_ ≠ (.slice fm bl.length fi : Value).ownBlock ∧ some k_ ≠ (.slice kz cg.length k0 : Value).ownBlock) s_.2.1 ki) ∧ (Kd.Q k25 25 w' w.heap.size (fun k_ => some k_ ≠ (s_.1 : Value).ownBlock ∧ some k_ ≠ (s_.2.1 : Value).ownBlock ∧ some k_ ≠ (.slice fm bl.length fi : Value).ownBlock ∧ some k_ ≠ (.slice kz cg.length k0 : Value).ownBlock ∧ some k_ ≠ (.slice js cz.length jc : Value).ownBlock) s_.2.2.1 kx) ∧ (Kd.R (Kd.int .i64) 3 w' w.heap.size (fun k_ => some k_ ≠ (s_.1 : Value).ownBlock) (.slice fm bl.length fi) bl) ∧ (Kd.S (Kd.slice 3 (Kd.int .i64)) 22 w' w.heap.size (fun k_ => some k_ ≠ (s_.1 : Value).ownBlock ∧ some k_ ≠ (s_.2.1 : Value).ownBlock ∧ some k_ ≠ (.slice fm bl.length fi : Value).ownBlock) (.slice kz cg.length k0) cg) ∧ (Kd.Q k25 25 w' w.heap.size (fun k_ => some k_ ≠ (s_.1 : Value).ownBlock ∧ some k_ ≠ (s_.2.1 : Value).ownBlock ∧ some k_ ≠ (s_.2.2.1 : Value).ownBlock ∧ some k_ ≠ (.slice fm bl.length fi : Value).ownBlock ∧ some k_ ≠ (.slice kz cg.length k0 : Value).ownBlock) (.slice js cz.length jc) cz) ∧ (w'.heap[cy]? = some (.cells #[.slice none 0 0, .slice none 0 0, .slice none 0 0] 28 (0, 0))) ∧ (w'.heap[cf]? = some (.cells #[.slice fm bl.length fi, .slice kz cg.length k0, .slice js cz.length jc] 28 (0, 0))) ∧ (w'.heap[s_.2.2.2]? = some (.cells #[.slice none 0 0, .slice none 0 0, .slice none 0 0] 28 (0, 0))) ∧ (w.heap.size ≤ s_.2.2.2) ∧ (w0.heap.size ≤ s_.2.2.2) ∧ (g ≠ s_.2.2.2) ∧ (s_.2.2.2 ≠ g) ∧ (cy ≠ s_.2.2.2) ∧ (s_.2.2.2 ≠ cy) ∧ (cf ≠ s_.2.2.2) ∧ (s_.2.2.2 ≠ cf) ∧ (IsS112 w0 w' g ac l4) ∧ (KeepBut w w' g none) ∧ (Below w0.heap.size w0 w')) ?_ ?_
     rotate_left
     ·intro hCont
      refine two_ (i := 3) (j := 8) (Ni := some 22) (Nj := some 7) (tl_ 11 15) (tl_ 11 263) rfl rfl rfl rfl (two_of HT_.out (g1_)) (by decide) (by decide) (fun K hK => ?_) (fun K hK => ?_)
      ·skip
       refine goes_ Try.func103 (g1_) rfl #[.pointer (some ⟨g, 0, none⟩), .agg #[.slice fm bl.length fi, .slice kz cg.length k0, .slice js cz.length jc]] (by rfl) rfl rfl (g2_) ?_
       with_reducible refine (spec_l20Deed.calls k1 g ac dp _ _ bl _ _ cg _ _ cz lx ly lz l3 l4 w0 _ ?side1 ?side2 ?side3 ?side4 ?side5 ?side6 ?side7 ?side8 ?side9 A15.out).mono ?_
       (case side1 => exact bi)
       (case side2 => exact e6)
       (case side3 => repeat (first | exact (Kd.R_reads' aw.out).2.2 | (with_reducible refine Kd.C_alloc ?_ _) | (with_reducible refine Kd.C_drewN ?_ _) | (with_reducible refine Kd.C_drew ?_)))
       (case side4 => exact (Kd.R_reads' aw.out).2.1)
       (case side5 => exact far_slice (IsS112.own_ne HI0.out aw.out (by decide)))
       (case side6 => exact Kd.C_foot_own ((Kd.S_R (IsS112.apartS (show IsS112 w0 _ g ac dp from bi) (uf3_ bc) (by decide)))) (fun _ h_ => h_.2))
       (case side7 => exact (Kd.S_reads' bc.out).2.1)
       (case side8 => exact Kd.C_foot_ownQ (IsS112.apartQ (show IsS112 w0 _ g ac dp from bi) (uf6_ bf) (by decide)) (fun _ h_ => h_.2))
       (case side9 => exact (Kd.Q_reads' bf.out).2.1)
       rintro e w43 ⟨rfl, hi, hb, hk⟩
       refine ⟨_, rfl, ?_⟩
       replace aw := Aside0.mk (Kd.R_mono (Kd.R_keep (IsS112.apart (show IsS112 w0 _ g ac dp from bi) (uf2_ aw) (by decide)) hk (fun _ h => h.2)) (fun _ h => h.1))
       replace bc := Aside0.mk (Kd.S_mono (Kd.S_keep (IsS112.apartS (show IsS112 w0 _ g ac dp from bi) (uf3_ bc) (by decide)) hk (fun _ h => h.2)) (fun _ h => h.1))
       replace bf := Aside0.mk (Kd.Q_mono (Kd.Q_keep (IsS112.apartQ (show IsS112 w0 _ g ac dp from bi) (uf6_ bf) (by decide)) hk (fun _ h => h.2)) (fun _ h => h.1))
       replace bj := kb_ hk bj mr
       replace al := kb_ hk al ms
       replace HK := Aside0.mk (KeepBut.trans (da) hk (.inl rfl))
       replace HB := Aside0.mk (hb)
       replace HI0 := Aside0.mk (hi)
       (try clear hb)
       (try clear hk hi)
       refine hK.out _ _ ⟨(blk_cell al.out 0).trans rfl, (blk_cell al.out 1).trans rfl, (blk_cell al.out 2).trans rfl⟩ (fun hHeld => ?_)
       clear hK K
       refine nm_ ?_
       refine two_ (i := 4) (j := 8) (Ni := some 23) (Nj := some 7) (tl_ 11 31) (tl_ 11 271) rfl rfl rfl rfl (two_of HT_.out (g1_)) (by decide) (by decide) (fun K hK => ?_) (fun K hK => ?_)
       ·skip
        refine goes_ Try.func54 (g1_) rfl #[.agg #[.slice fm bl.length fi, .slice kz cg.length k0, .slice js cz.length jc], .agg #[.int .i64 lx, .int .i64 ly, .int .i64 lz, .int .i64 l3]] (by rfl) rfl rfl (g2_) ?_
        with_reducible refine (spec_DeskDo.calls k1 _ _ bl _ _ cg _ _ cz lx ly lz l3 jv ki kx false _ ?side1 ?side2 ?side3 ?side4 ?side5 ?side6 ya.out).mono ?_
        (case side1 => repeat (first | exact (Kd.R_reads' aw.out).2.2 | (with_reducible refine Kd.C_alloc ?_ _) | (with_reducible refine Kd.C_drewN ?_ _) | (with_reducible refine Kd.C_drew ?_)))
        (case side2 => exact (Kd.R_reads' aw.out).2.1)
        (case side3 => repeat (first | exact (Kd.S_reads' bc.out).2.2 | (with_reducible refine Kd.C_alloc ?_ _) | (with_reducible refine Kd.C_drewN ?_ _) | (with_reducible refine Kd.C_drew ?_)))
        (case side4 => exact (Kd.S_reads' bc.out).2.1)
        (case side5 => repeat (first | exact (Kd.Q_reads' bf.out).2.2 | (with_reducible refine Kd.C_alloc ?_ _) | (with_reducible refine Kd.C_drewN ?_ _) | (with_reducible refine Kd.C_drew ?_)))
        (case side6 => exact (Kd.Q_reads' bf.out).2.1)
        rintro e w44 ⟨jf, ky, mt, rfl, am, ba, d3, hb⟩
        refine ⟨_, rfl, ?_⟩
        have ob := Aside0.mk (Kd.R_lower (Kd.R_new' am (Kd.R_lt (uf2_ aw))) (keep_size (w := w) (g := g) (row := none) (da)))
        have oc := Aside0.mk (Kd.S_lower (Kd.S_new' (Kd.S_new' ba (Kd.R_lt (uf2_ aw))) (Kd.S_lt (uf3_ bc))) (keep_size (w := w) (g := g) (row := none) (da)))
        have od := Aside0.mk (Kd.Q_lower (Kd.Q_new' (Kd.Q_new' (Kd.Q_new' d3 (Kd.R_lt (uf2_ aw))) (Kd.S_lt (uf3_ bc))) (Kd.Q_lt (uf6_ bf))) (keep_size (w := w) (g := g) (row := none) (da)))
        replace aw := Aside0.mk (Kd.R_elder' (uf2_ aw) (Kd.R_base am) hb)
        replace bc := Aside0.mk (Kd.S_mono (Kd.S_told (Kd.S_told (Kd.S_old (uf3_ bc) hb) (Kd.R_base am)) (Kd.S_base ba)) (fun _ h_ => h_.1))
        replace bf := Aside0.mk (Kd.Q_mono (Kd.Q_told (Kd.Q_told (Kd.Q_told (Kd.Q_old (uf6_ bf) hb) (Kd.R_base am)) (Kd.S_base ba)) (Kd.Q_base d3)) (fun _ h_ => h_.1))
        replace bj := bb_ bj hb
        replace al := bb_ al hb
        replace HK := Aside0.mk (KeepBut.trans (da) (KeepBut.of_below hb g none) (.inl rfl))
        replace HB := Aside0.mk (below_step (e6) hb)
        replace HI0 := Aside0.mk (IsS112.below (bi) hb)
        (try clear hb)
        (try clear hk hi)
        (try clear am)
        (try clear ba)
        (try clear d3)
        refine hK.out _ _ ⟨(blk_cell al.out 0).trans rfl, (blk_cell al.out 1).trans rfl, (blk_cell al.out 2).trans rfl⟩ (fun hHeld => ?_)
        clear hK K
        refine nm_ ?_
        refine pw_ 5 18 (tl_ 11 63) rfl rfl ?_
        refine pw_ 6 24 (tl_ 11 127) rfl rfl ?_
        refine pw_ 7 25 (tl_ 11 255) rfl rfl ?_
        refine one_ (i := 8) (N := some 7) (tl_ 11 511) rfl rfl (one_of HT_.out (g1_)) (by decide) (fun K hK => ?_)
        refine bs_ (N := 7) #[.slice none 0 0, .slice none 0 0, .slice none 0 0] 28 ?_
        intro bb hg w45 hbox hb
        replace aw := Aside0.mk (Kd.R_below (uf2_ aw) hb)
        replace bc := Aside0.mk (Kd.S_below (uf3_ bc) hb)
        replace bf := Aside0.mk (Kd.Q_below (uf6_ bf) hb)
        replace ob := Aside0.mk (Kd.R_below (uf2_ ob) hb)
        replace oc := Aside0.mk (Kd.S_below (uf3_ oc) hb)
        replace od := Aside0.mk (Kd.Q_below (uf6_ od) hb)
        replace HB := Aside0.mk (below_step (e6) hb)
        have ex := Aside0.mk (hbox)
        have o3 := Aside0.mk ((g11_ : w.heap.size ≤ bb))
        have o4 := Aside0.mk ((Nat.le_trans HW0.out (g11_ : w.heap.size ≤ bb) : w0.heap.size ≤ bb))
        replace HK := Aside0.mk (KeepBut.trans (da) (KeepBut.of_below hb g none) (.inl rfl))
        have i3 := Aside0.mk ((g36_ : cy ≠ bb))
        have ld := Aside0.mk ((g37_ : bb ≠ cy))
        replace bj := bb_ bj hb
        have ey := Aside0.mk ((g104_ : cf ≠ bb))
        have lf := Aside0.mk ((g105_ : bb ≠ cf))
        replace al := bb_ al hb
        have oa := Aside0.mk ((by rw [hg]; exact Nat.ne_of_lt (IsS112.lt (show IsS112 w0 _ g ac l4 from bi)) : g ≠ bb))
        have nl := Aside0.mk ((by rw [hg]; exact Nat.ne_of_gt (IsS112.lt (show IsS112 w0 _ g ac l4 from bi)) : bb ≠ g))
        replace HI0 := Aside0.mk (IsS112.below (bi) hb)
        clear hb hbox hg
        refine hK.out _ _ ⟨(blk_cell al.out 0).trans rfl, (blk_cell al.out 1).trans rfl, (blk_cell al.out 2).trans rfl⟩ (fun hHeld => ?_)
        clear hK K
        refine nm_ ?_
        exact norm_ (g21_) (hCont (jf, ky, mt, bb) _ ⟨hHeld, (g53_), (g54_), (g55_), (g56_), (g57_), (g58_), (uf0_ bj), (uf0_ al), (uf0_ ex), o3.out, o4.out, oa.out, nl.out, i3.out, ld.out, ey.out, lf.out, (bi), (da), (e6)⟩)
       ·skip
        refine bs_ (N := 7) #[.slice none 0 0, .slice none 0 0, .slice none 0 0] 28 ?_
        intro bb hg w44 hbox hb
        replace aw := Aside0.mk (Kd.R_below (uf2_ aw) hb)
        replace bc := Aside0.mk (Kd.S_below (uf3_ bc) hb)
        replace bf := Aside0.mk (Kd.Q_below (uf6_ bf) hb)
        replace HB := Aside0.mk (below_step (e6) hb)
        have ex := Aside0.mk (hbox)
        have o3 := Aside0.mk ((g11_ : w.heap.size ≤ bb))
        have o4 := Aside0.mk ((Nat.le_trans HW0.out (g11_ : w.heap.size ≤ bb) : w0.heap.size ≤ bb))
        replace HK := Aside0.mk (KeepBut.trans (da) (KeepBut.of_below hb g none) (.inl rfl))
        have i3 := Aside0.mk ((g36_ : cy ≠ bb))
        have ld := Aside0.mk ((g37_ : bb ≠ cy))
        replace bj := bb_ bj hb
        have ey := Aside0.mk ((g104_ : cf ≠ bb))
        have lf := Aside0.mk ((g105_ : bb ≠ cf))
        replace al := bb_ al hb
        have oa := Aside0.mk ((by rw [hg]; exact Nat.ne_of_lt (IsS112.lt (show IsS112 w0 _ g ac l4 from bi)) : g ≠ bb))
        have nl := Aside0.mk ((by rw [hg]; exact Nat.ne_of_gt (IsS112.lt (show IsS112 w0 _ g ac l4 from bi)) : bb ≠ g))
        replace HI0 := Aside0.mk (IsS112.below (bi) hb)
        clear hb hbox hg
        refine hK.out _ _ ⟨(blk_cell al.out 0).trans rfl, (blk_cell al.out 1).trans rfl, (blk_cell al.out 2).trans rfl⟩ (fun hHeld => ?_)
        clear hK K
        refine nm_ ?_
        refine one_ (i := 4) (N := some 23) (tl_ 11 287) rfl rfl (one_of HT_.out (g1_)) (by decide) (fun K hK => ?_)
        refine goes_ Try.func54 (g1_) rfl #[.agg #[.slice fm bl.length fi, .slice kz cg.length k0, .slice js cz.length jc], .agg #[.int .i64 lx, .int .i64 ly, .int .i64 lz, .int .i64 l3]] (by rfl) rfl rfl (g2_) ?_
        with_reducible refine (spec_DeskDo.calls k1 _ _ bl _ _ cg _ _ cz lx ly lz l3 jv ki kx false _ ?side1 ?side2 ?side3 ?side4 ?side5 ?side6 ya.out).mono ?_
        (case side1 => repeat (first | exact (Kd.R_reads' aw.out).2.2 | (with_reducible refine Kd.C_alloc ?_ _) | (with_reducible refine Kd.C_drewN ?_ _) | (with_reducible refine Kd.C_drew ?_)))
        (case side2 => exact (Kd.R_reads' aw.out).2.1)
        (case side3 => repeat (first | exact (Kd.S_reads' bc.out).2.2 | (with_reducible refine Kd.C_alloc ?_ _) | (with_reducible refine Kd.C_drewN ?_ _) | (with_reducible refine Kd.C_drew ?_)))
        (case side4 => exact (Kd.S_reads' bc.out).2.1)
        (case side5 => repeat (first | exact (Kd.Q_reads' bf.out).2.2 | (with_reducible refine Kd.C_alloc ?_ _) | (with_reducible refine Kd.C_drewN ?_ _) | (with_reducible refine Kd.C_drew ?_)))
        (case side6 => exact (Kd.Q_reads' bf.out).2.1)
        rintro e w45 ⟨jf, ky, mt, rfl, am, ba, d3, hb⟩
        refine ⟨_, rfl, ?_⟩
        have ob := Aside0.mk (Kd.R_lower (Kd.R_new' am (Kd.R_lt (uf2_ aw))) (keep_size (w := w) (g := g) (row := none) (da)))
        have oc := Aside0.mk (Kd.S_lower (Kd.S_new' (Kd.S_new' ba (Kd.R_lt (uf2_ aw))) (Kd.S_lt (uf3_ bc))) (keep_size (w := w) (g := g) (row := none) (da)))
        have od := Aside0.mk (Kd.Q_lower (Kd.Q_new' (Kd.Q_new' (Kd.Q_new' d3 (Kd.R_lt (uf2_ aw))) (Kd.S_lt (uf3_ bc))) (Kd.Q_lt (uf6_ bf))) (keep_size (w := w) (g := g) (row := none) (da)))
        replace aw := Aside0.mk (Kd.R_elder' (uf2_ aw) (Kd.R_base am) hb)
        replace bc := Aside0.mk (Kd.S_mono (Kd.S_told (Kd.S_told (Kd.S_old (uf3_ bc) hb) (Kd.R_base am)) (Kd.S_base ba)) (fun _ h_ => h_.1))
        replace bf := Aside0.mk (Kd.Q_mono (Kd.Q_told (Kd.Q_told (Kd.Q_told (Kd.Q_old (uf6_ bf) hb) (Kd.R_base am)) (Kd.S_base ba)) (Kd.Q_base d3)) (fun _ h_ => h_.1))
        replace bj := bb_ bj hb
        replace al := bb_ al hb
        replace ex := bb_ ex hb
        replace HK := Aside0.mk (KeepBut.trans (da) (KeepBut.of_below hb g none) (.inl rfl))
        replace HB := Aside0.mk (below_step (e6) hb)
        replace HI0 := Aside0.mk (IsS112.below (bi) hb)
        (try clear hb)
        (try clear hk hi)
        (try clear am)
        (try clear ba)
        (try clear d3)
        refine hK.out _ _ ⟨(blk_cell al.out 0).trans rfl, (blk_cell al.out 1).trans rfl, (blk_cell al.out 2).trans rfl⟩ (fun hHeld => ?_)
        clear hK K
        refine nm_ ?_
        refine pw_ 5 18 (tl_ 11 319) rfl rfl ?_
        refine pw_ 6 24 (tl_ 11 383) rfl rfl ?_
        refine pw_ 7 25 (tl_ 11 511) rfl rfl ?_
        exact norm_ (g21_) (hCont (jf, ky, mt, bb) _ ⟨hHeld, (g53_), (g54_), (g55_), (g56_), (g57_), (g58_), (uf0_ bj), (uf0_ al), (uf0_ ex), o3.out, o4.out, oa.out, nl.out, i3.out, ld.out, ey.out, lf.out, (bi), (da), (e6)⟩)
      ·skip
       refine bs_ (N := 7) #[.slice none 0 0, .slice none 0 0, .slice none 0 0] 28 ?_
       intro bb hg w43 hbox hb
       replace aw := Aside0.mk (Kd.R_below (uf2_ aw) hb)
       replace bc := Aside0.mk (Kd.S_below (uf3_ bc) hb)
       replace bf := Aside0.mk (Kd.Q_below (uf6_ bf) hb)
       replace HB := Aside0.mk (below_step (e6) hb)
       have ex := Aside0.mk (hbox)
       have o3 := Aside0.mk ((g11_ : w.heap.size ≤ bb))
       have o4 := Aside0.mk ((Nat.le_trans HW0.out (g11_ : w.heap.size ≤ bb) : w0.heap.size ≤ bb))
       replace HK := Aside0.mk (KeepBut.trans (da) (KeepBut.of_below hb g none) (.inl rfl))
       have i3 := Aside0.mk ((g36_ : cy ≠ bb))
       have ld := Aside0.mk ((g37_ : bb ≠ cy))
       replace bj := bb_ bj hb
       have ey := Aside0.mk ((g104_ : cf ≠ bb))
       have lf := Aside0.mk ((g105_ : bb ≠ cf))
       replace al := bb_ al hb
       have oa := Aside0.mk ((by rw [hg]; exact Nat.ne_of_lt (IsS112.lt (show IsS112 w0 _ g ac dp from bi)) : g ≠ bb))
       have nl := Aside0.mk ((by rw [hg]; exact Nat.ne_of_gt (IsS112.lt (show IsS112 w0 _ g ac dp from bi)) : bb ≠ g))
       replace HI0 := Aside0.mk (IsS112.below (bi) hb)
       clear hb hbox hg
       refine hK.out _ _ ⟨(blk_cell al.out 0).trans rfl, (blk_cell al.out 1).trans rfl, (blk_cell al.out 2).trans rfl⟩ (fun hHeld => ?_)
       clear hK K
       refine nm_ ?_
       refine one_ (i := 3) (N := some 22) (tl_ 11 271) rfl rfl (one_of HT_.out (g1_)) (by decide) (fun K hK => ?_)
       refine goes_ Try.func103 (g1_) rfl #[.pointer (some ⟨g, 0, none⟩), .agg #[.slice fm bl.length fi, .slice kz cg.length k0, .slice js cz.length jc]] (by rfl) rfl rfl (g2_) ?_
       with_reducible refine (spec_l20Deed.calls k1 g ac dp _ _ bl _ _ cg _ _ cz lx ly lz l3 l4 w0 _ ?side1 ?side2 ?side3 ?side4 ?side5 ?side6 ?side7 ?side8 ?side9 A15.out).mono ?_
       (case side1 => exact bi)
       (case side2 => exact e6)
       (case side3 => repeat (first | exact (Kd.R_reads' aw.out).2.2 | (with_reducible refine Kd.C_alloc ?_ _) | (with_reducible refine Kd.C_drewN ?_ _) | (with_reducible refine Kd.C_drew ?_)))
       (case side4 => exact (Kd.R_reads' aw.out).2.1)
       (case side5 => exact far_slice (IsS112.own_ne HI0.out aw.out (by decide)))
       (case side6 => exact Kd.C_foot_own ((Kd.S_R (IsS112.apartS (show IsS112 w0 _ g ac dp from bi) (uf3_ bc) (by decide)))) (fun _ h_ => h_.2))
       (case side7 => exact (Kd.S_reads' bc.out).2.1)
       (case side8 => exact Kd.C_foot_ownQ (IsS112.apartQ (show IsS112 w0 _ g ac dp from bi) (uf6_ bf) (by decide)) (fun _ h_ => h_.2))
       (case side9 => exact (Kd.Q_reads' bf.out).2.1)
       rintro e w44 ⟨rfl, hi, hb, hk⟩
       refine ⟨_, rfl, ?_⟩
       replace aw := Aside0.mk (Kd.R_mono (Kd.R_keep (IsS112.apart (show IsS112 w0 _ g ac dp from bi) (uf2_ aw) (by decide)) hk (fun _ h => h.2)) (fun _ h => h.1))
       replace bc := Aside0.mk (Kd.S_mono (Kd.S_keep (IsS112.apartS (show IsS112 w0 _ g ac dp from bi) (uf3_ bc) (by decide)) hk (fun _ h => h.2)) (fun _ h => h.1))
       replace bf := Aside0.mk (Kd.Q_mono (Kd.Q_keep (IsS112.apartQ (show IsS112 w0 _ g ac dp from bi) (uf6_ bf) (by decide)) hk (fun _ h => h.2)) (fun _ h => h.1))
       replace bj := kb_ hk bj mr
       replace al := kb_ hk al ms
       replace ex := kb_ hk ex nl
       replace HK := Aside0.mk (KeepBut.trans (da) hk (.inl rfl))
       replace HB := Aside0.mk (hb)
       replace HI0 := Aside0.mk (hi)
       (try clear hb)
       (try clear hk hi)
       refine hK.out _ _ ⟨(blk_cell al.out 0).trans rfl, (blk_cell al.out 1).trans rfl, (blk_cell al.out 2).trans rfl⟩ (fun hHeld => ?_)
       clear hK K
       refine nm_ ?_
       refine one_ (i := 4) (N := some 23) (tl_ 11 287) rfl rfl (one_of HT_.out (g1_)) (by decide) (fun K hK => ?_)
       refine goes_ Try.func54 (g1_) rfl #[.agg #[.slice fm bl.length fi, .slice kz cg.length k0, .slice js cz.length jc], .agg #[.int .i64 lx, .int .i64 ly, .int .i64 lz, .int .i64 l3]] (by rfl) rfl rfl (g2_) ?_
       with_reducible refine (spec_DeskDo.calls k1 _ _ bl _ _ cg _ _ cz lx ly lz l3 jv ki kx false _ ?side1 ?side2 ?side3 ?side4 ?side5 ?side6 ya.out).mono ?_
       (case side1 => repeat (first | exact (Kd.R_reads' aw.out).2.2 | (with_reducible refine Kd.C_alloc ?_ _) | (with_reducible refine Kd.C_drewN ?_ _) | (with_reducible refine Kd.C_drew ?_)))
       (case side2 => exact (Kd.R_reads' aw.out).2.1)
       (case side3 => repeat (first | exact (Kd.S_reads' bc.out).2.2 | (with_reducible refine Kd.C_alloc ?_ _) | (with_reducible refine Kd.C_drewN ?_ _) | (with_reducible refine Kd.C_drew ?_)))
       (case side4 => exact (Kd.S_reads' bc.out).2.1)
       (case side5 => repeat (first | exact (Kd.Q_reads' bf.out).2.2 | (with_reducible refine Kd.C_alloc ?_ _) | (with_reducible refine Kd.C_drewN ?_ _) | (with_reducible refine Kd.C_drew ?_)))
       (case side6 => exact (Kd.Q_reads' bf.out).2.1)
       rintro e w45 ⟨jf, ky, mt, rfl, am, ba, d3, hb⟩
       refine ⟨_, rfl, ?_⟩
       have ob := Aside0.mk (Kd.R_lower (Kd.R_new' am (Kd.R_lt (uf2_ aw))) (keep_size (w := w) (g := g) (row := none) (da)))
       have oc := Aside0.mk (Kd.S_lower (Kd.S_new' (Kd.S_new' ba (Kd.R_lt (uf2_ aw))) (Kd.S_lt (uf3_ bc))) (keep_size (w := w) (g := g) (row := none) (da)))
       have od := Aside0.mk (Kd.Q_lower (Kd.Q_new' (Kd.Q_new' (Kd.Q_new' d3 (Kd.R_lt (uf2_ aw))) (Kd.S_lt (uf3_ bc))) (Kd.Q_lt (uf6_ bf))) (keep_size (w := w) (g := g) (row := none) (da)))
       replace aw := Aside0.mk (Kd.R_elder' (uf2_ aw) (Kd.R_base am) hb)
       replace bc := Aside0.mk (Kd.S_mono (Kd.S_told (Kd.S_told (Kd.S_old (uf3_ bc) hb) (Kd.R_base am)) (Kd.S_base ba)) (fun _ h_ => h_.1))
       replace bf := Aside0.mk (Kd.Q_mono (Kd.Q_told (Kd.Q_told (Kd.Q_told (Kd.Q_old (uf6_ bf) hb) (Kd.R_base am)) (Kd.S_base ba)) (Kd.Q_base d3)) (fun _ h_ => h_.1))
       replace bj := bb_ bj hb
       replace al := bb_ al hb
       replace ex := bb_ ex hb
       replace HK := Aside0.mk (KeepBut.trans (da) (KeepBut.of_below hb g none) (.inl rfl))
       replace HB := Aside0.mk (below_step (e6) hb)
       replace HI0 := Aside0.mk (IsS112.below (bi) hb)
       (try clear hb)
       (try clear hk hi)
       (try clear am)
       (try clear ba)
       (try clear d3)
       refine hK.out _ _ ⟨(blk_cell al.out 0).trans rfl, (blk_cell al.out 1).trans rfl, (blk_cell al.out 2).trans rfl⟩ (fun hHeld => ?_)
       clear hK K
       refine nm_ ?_
       refine pw_ 5 18 (tl_ 11 319) rfl rfl ?_
       refine pw_ 6 24 (tl_ 11 383) rfl rfl ?_
       refine pw_ 7 25 (tl_ 11 511) rfl rfl ?_
       exact norm_ (g21_) (hCont (jf, ky, mt, bb) _ ⟨hHeld, (g53_), (g54_), (g55_), (g56_), (g57_), (g58_), (uf0_ bj), (uf0_ al), (uf0_ ex), o3.out, o4.out, oa.out, nl.out, i3.out, ld.out, ey.out, lf.out, (bi), (da), (e6)⟩)
     rintro ⟨jf, ky, mt, bb⟩ kr ⟨hS_, h0_, h1_, h2_, h3_, h4_, h5_, h6_, h7_, h8_, h9_, h10_, h11_, h12_, h13_, h14_, h15_, h16_, h17_, h18_, h19_⟩
     have ob : Aside0 (Kd.R (Kd.int .i64) 3 kr w.heap.size (fun k_ => some k_ ≠ (.slice fm bl.length fi : Value).ownBlock) jf jv) := ⟨h0_⟩
     have oc : Aside0 (Kd.S (Kd.slice 3 (Kd.int .i64)) 22 kr w.heap.size (fun k_ => some k_ ≠ (jf : Value).ownBlock ∧ some k_ ≠ (.slice fm bl.length fi : Value).ownBlock ∧ some k_ ≠ (.slice kz cg.length k0 : Value).ownBlock) ky ki) := ⟨h1_⟩
     have od : Aside0 (Kd.Q k25 25 kr w.heap.size (fun k_ => some k_ ≠ (jf : Value).ownBlock ∧ some k_ ≠ (ky : Value).ownBlock ∧ some k_ ≠ (.slice fm bl.length fi : Value).ownBlock ∧ some k_ ≠ (.slice kz cg.length k0 : Value).ownBlock ∧ some k_ ≠ (.slice js cz.length jc : Value).ownBlock) mt kx) := ⟨h2_⟩
     replace aw : Aside0 (Kd.R (Kd.int .i64) 3 kr w.heap.size (fun k_ => some k_ ≠ (jf : Value).ownBlock) (.slice fm bl.length fi) bl) := ⟨h3_⟩
     replace bc : Aside0 (Kd.S (Kd.slice 3 (Kd.int .i64)) 22 kr w.heap.size (fun k_ => some k_ ≠ (jf : Value).ownBlock ∧ some k_ ≠ (ky : Value).ownBlock ∧ some k_ ≠ (.slice fm bl.length fi : Value).ownBlock) (.slice kz cg.length k0) cg) := ⟨h4_⟩
     replace bf : Aside0 (Kd.Q k25 25 kr w.heap.size (fun k_ => some k_ ≠ (jf : Value).ownBlock ∧ some k_ ≠ (ky : Value).ownBlock ∧ some k_ ≠ (mt : Value).ownBlock ∧ some k_ ≠ (.slice fm bl.length fi : Value).ownBlock ∧ some k_ ≠ (.slice kz cg.length k0 : Value).ownBlock) (.slice js cz.length jc) cz) := ⟨h5_⟩
     replace bj : Aside0 (kr.heap[cy]? = some (.cells #[.slice none 0 0, .slice none 0 0, .slice none 0 0] 28 (0, 0))) := ⟨h6_⟩
     replace al : Aside0 (kr.heap[cf]? = some (.cells #[.slice fm bl.length fi, .slice kz cg.length k0, .slice js cz.length jc] 28 (0, 0))) := ⟨h7_⟩
     have ex : Aside0 (kr.heap[bb]? = some (.cells #[.slice none 0 0, .slice none 0 0, .slice none 0 0] 28 (0, 0))) := ⟨h8_⟩
     have o3 : Aside0 (w.heap.size ≤ bb) := ⟨h9_⟩
     have o4 : Aside0 (w0.heap.size ≤ bb) := ⟨h10_⟩
     have oa : Aside0 (g ≠ bb) := ⟨h11_⟩
     have nl : Aside0 (bb ≠ g) := ⟨h12_⟩
     have i3 : Aside0 (cy ≠ bb) := ⟨h13_⟩
     have ld : Aside0 (bb ≠ cy) := ⟨h14_⟩
     have ey : Aside0 (cf ≠ bb) := ⟨h15_⟩
     have lf : Aside0 (bb ≠ cf) := ⟨h16_⟩
     replace HI0 : Aside0 (IsS112 w0 kr g ac l4) := ⟨h17_⟩
     replace HK : Aside0 (KeepBut w kr g none) := ⟨h18_⟩
     replace HB : Aside0 (Below w0.heap.size w0 kr) := ⟨h19_⟩
     clear h0_ h1_ h2_ h3_ h4_ h5_ h6_ h7_ h8_ h9_ h10_ h11_ h12_ h13_ h14_ h15_ h16_ h17_ h18_ h19_
     have hHeld : kr.cell? ⟨cf, 0, none⟩ = some (.slice fm bl.length fi) ∧ kr.cell? ⟨cf, 1, none⟩ = some (.slice kz cg.length k0) ∧ kr.cell? ⟨cf, 2, none⟩ = some (.slice js cz.length jc) := hS_
     obtain ⟨zb, zc, bm6⟩ := Kd.R_slice ob.out
     (first | subst bm6 | (injection bm6 with f1_ f2_ f3_; have f4_ := f1_.symm; have f5_ := f3_.symm; clear f1_ f2_ f3_; subst f4_; subst f5_))
     obtain ⟨mu, l5, bq7⟩ := Kd.S_slice oc.out
     (first | subst bq7 | (injection bq7 with f1_ f2_ f3_; have f4_ := f1_.symm; have f5_ := f3_.symm; clear f1_ f2_ f3_; subst f4_; subst f5_))
     obtain ⟨ek, ej, al7, _⟩ := Kd.Q_slice od.out
     (first | subst al7 | (injection al7 with f1_ f2_ f3_; have f4_ := f1_.symm; have f5_ := f3_.symm; clear f1_ f2_ f3_; subst f4_; subst f5_))
     refine norm_ (a' := ?_) ?_ ?_
     rotate_left
     ·simp only [putAll, Act.put, List.setIfInBounds_toArray, List.set_cons_zero, List.set_cons_succ]
      rfl
     refine one_ (i := 9) (N := none) (tl_ 11 1023) rfl rfl (one_of HT_.out (g1_)) (by decide) (fun K hK => ?_)
     have hl6 : kr.cell? ⟨bb, 0, none⟩ = some (.slice none 0 0) := (blk_cell ex.out 0).trans rfl
     have hl7 := blk_frozen ex.out 0
     have hl8 := i3.out
     have hl9 := ey.out
     have hm1 := ld.out
     have hm2 := lf.out
     have hm3 : kr.cell? ⟨bb, 1, none⟩ = some (.slice none 0 0) := (blk_cell ex.out 1).trans rfl
     have hm4 := blk_frozen ex.out 1
     have hm5 := i3.out
     have hm6 := ey.out
     have hm7 := ld.out
     have hm8 := lf.out
     have hm9 : kr.cell? ⟨bb, 2, none⟩ = some (.slice none 0 0) := (blk_cell ex.out 2).trans rfl
     have hn0 := blk_frozen ex.out 2
     have hn2 := i3.out
     have hn3 := ey.out
     have hn4 := ld.out
     have hn5 := lf.out
     refine skip_ (w1 := ?_) (by rfl) rfl ?_ ?_
     rotate_left
     ·go_simp
      rfl
     refine hK.out _ _ ⟨(cf_ ey ((cf_ ey ((cf_ ey (hHeld.1)))))), (cf_ ey ((cf_ ey ((cf_ ey (hHeld.2.1)))))), (cf_ ey ((cf_ ey ((cf_ ey (hHeld.2.2))))))⟩ (fun hHeld => ?_)
     clear hK K
     refine pw_ 10 8 (tl_ 11 2047) rfl rfl ?_
     refine done_ (done_of HT_.out (g1_)) ?_
     try go_wp2
     go_roundg k1
     case measure => have := HK1.out; omega
     case rel => exact ⟨(wrap64 (j4 - 1)), (l4), (bl), (cg), (cz), (.slice fm bl.length fi), (.slice kz cg.length k0), (.slice js cz.length jc), (g3_), H', ⟨g15_⟩, ⟨by (with_reducible repeat (first | apply Kd.R_alloc | apply Kd.R_drewN | apply Kd.R_drew)); exact Kd.R_mono (Kd.R_far (p := ⟨bb, 2, none⟩) (Kd.R_far (p := ⟨bb, 1, none⟩) (Kd.R_far (p := ⟨bb, 0, none⟩) (Kd.R_types aw.out ex.out (by decide)) (fun _ hk => hk.2) (.slice zb jv.length zc)) (fun _ hk => hk.2) (.slice mu ki.length l5)) (fun _ hk => hk.2) (.slice ek kx.length ej)) (fun _ hk => trivial)⟩, ⟨by (with_reducible repeat (first | apply Kd.S_alloc | apply Kd.S_drewN | apply Kd.S_drew)); exact Kd.S_mono (Kd.S_far (p := ⟨bb, 2, none⟩) (Kd.S_far (p := ⟨bb, 1, none⟩) (Kd.S_far (p := ⟨bb, 0, none⟩) (Kd.S_types bc.out ex.out (by decide)) (fun _ hk => hk.2) (.slice zb jv.length zc)) (fun _ hk => hk.2) (.slice mu ki.length l5)) (fun _ hk => hk.2) (.slice ek kx.length ej)) (fun _ hk => hk.1.2.2)⟩, ⟨by (with_reducible repeat (first | apply Kd.Q_alloc | apply Kd.Q_drewN | apply Kd.Q_drew)); exact Kd.Q_mono (Kd.Q_far (p := ⟨bb, 2, none⟩) (Kd.Q_far (p := ⟨bb, 1, none⟩) (Kd.Q_far (p := ⟨bb, 0, none⟩) (Kd.Q_types bf.out ex.out (by decide)) (fun _ hk => hk.2) (.slice zb jv.length zc)) (fun _ hk => hk.2) (.slice mu ki.length l5)) (fun _ hk => hk.2) (.slice ek kx.length ej)) (fun _ hk => ⟨hk.1.2.2.2.1, hk.1.2.2.2.2⟩)⟩, ⟨by (with_reducible repeat (first | refine blk_drewN ?_ _ | refine blk_drew ?_ | refine blk_alloc ?_ _)); refine blk_far ?_ i3.out _; refine blk_far ?_ i3.out _; refine blk_far ?_ i3.out _; exact uf0_ bj⟩, ⟨by (with_reducible repeat (first | refine blk_drewN ?_ _ | refine blk_drew ?_ | refine blk_alloc ?_ _)); refine blk_far ?_ ey.out _; refine blk_far ?_ ey.out _; refine blk_far ?_ ey.out _; exact uf0_ al⟩, ⟨bi⟩, ⟨da⟩, ⟨e6⟩⟩
   ·rw [if_neg e3] at H
    have oo := decide_eq_false e3
    clear e3
    replace H := Option.bind_eq_some_iff.mp H
    obtain ⟨⟨fk8, nm⟩, du5, H⟩ := H
    try dsimp only at H
    have A53 := Aside0.mk du5
    clear du5
    by_cases c54 : fk8 = true
    ·subst c54
     replace H := ifp_ H
     replace H := Option.bind_eq_some_iff.mp H
     obtain ⟨⟨qd, am7⟩, du6, H⟩ := H
     try dsimp only at H
     have A55 := Aside0.mk du6
     clear du6
     by_cases c56 : qd = 0
     ·rw [if_pos c56] at H
      have fk9 : (qd == 0) = true := beq_iff_eq.mpr c56
      have fl0 : (qd != 0) = false := bne_eq_false_iff_eq.mpr c56
      clear c56
      obtain ⟨qa, H⟩ := pos_ H
      have hn6 := decide_eq_true qa
      have hn7 : decide (0 < bl.length) = true := decide_eq_true (by omega)
      clear qa
      obtain ⟨du7, hy420⟩ : ∃ y_ : List Int, y_ = (bl.set (0 : Int).toNat (-1)) := ⟨_, rfl⟩
      replace H : (some (du7, cg, cz, am7)) = some (r1, r2, r3, r4) := by first | (rw [hy420]; with_reducible exact H) | (have H2_ := (Option.bind_some _ _).symm.trans H; rw [hy420]; with_reducible exact H2_) | (have H2_ := (Option.bind_some _ _).symm.trans H; with_reducible exact H2_) | with_reducible exact H | (rw [hy420]; exact H) | exact H
      have fl1 := Aside0.mk hy420
      clear hy420
      simp only [Option.some.injEq, Prod.mk.injEq] at H
      obtain ⟨rfl, rfl, rfl, rfl⟩ := H
      go_wp2_with (first | ((with_reducible refine gate_callee (f := 106) rfl ?_); refine goesL_ (some 30) rfl rfl Try.func106 k_ rfl #[.pointer (some ⟨g, 0, none⟩), .int .i64 a1] rfl (g2_) ?_; (with_reducible refine (spec_l20Rd_odd.calls k1 g ac dp a1 true nm w0 _ ?side1 ?side2 A53.out).mono ?_); (case side1 => exact bi); (case side2 => exact e6); rintro e w59 ⟨rfl, hi, hb, hk⟩; refine ⟨_, rfl, ?_⟩; replace aw := Aside0.mk (Kd.R_mono (Kd.R_keep (IsS112.apart (show IsS112 w0 _ g ac dp from bi) (uf2_ aw) (by decide)) hk (fun _ h => h.2)) (fun _ h => h.1)); replace bc := Aside0.mk (Kd.S_mono (Kd.S_keep (IsS112.apartS (show IsS112 w0 _ g ac dp from bi) (uf3_ bc) (by decide)) hk (fun _ h => h.2)) (fun _ h => h.1)); replace bf := Aside0.mk (Kd.Q_mono (Kd.Q_keep (IsS112.apartQ (show IsS112 w0 _ g ac dp from bi) (uf6_ bf) (by decide)) hk (fun _ h => h.2)) (fun _ h => h.1)); replace bj := kb_ hk bj mr; replace al := kb_ hk al ms; replace HK := Aside0.mk (KeepBut.trans (da) hk (.inl rfl)); replace HB := Aside0.mk (hb); replace HI0 := Aside0.mk (hi); (try clear hb); (try clear hk hi)) | ((with_reducible refine gate_callee (f := 70) rfl ?_); refine goesL_ (some 32) rfl rfl Try.func70 k_ rfl #[.pointer (some ⟨g, 0, none⟩), .int .i64 3] rfl (g2_) ?_; (with_reducible refine (spec_l20Rd_pick.calls k1 g ac nm 3 qd am7 w0 _ ?side1 ?side2 A55.out).mono ?_); (case side1 => exact bi); (case side2 => exact e6); rintro e w60 ⟨rfl, hi, hb, hk⟩; refine ⟨_, rfl, ?_⟩; replace aw := Aside0.mk (Kd.R_mono (Kd.R_keep (IsS112.apart (show IsS112 w0 _ g ac nm from bi) (uf2_ aw) (by decide)) hk (fun _ h => h.2)) (fun _ h => h.1)); replace bc := Aside0.mk (Kd.S_mono (Kd.S_keep (IsS112.apartS (show IsS112 w0 _ g ac nm from bi) (uf3_ bc) (by decide)) hk (fun _ h => h.2)) (fun _ h => h.1)); replace bf := Aside0.mk (Kd.Q_mono (Kd.Q_keep (IsS112.apartQ (show IsS112 w0 _ g ac nm from bi) (uf6_ bf) (by decide)) hk (fun _ h => h.2)) (fun _ h => h.1)); replace bj := kb_ hk bj mr; replace al := kb_ hk al ms; replace HK := Aside0.mk (KeepBut.trans (da) hk (.inl rfl)); replace HB := Aside0.mk (hb); replace HI0 := Aside0.mk (hi); (try clear hb); (try clear hk hi); have hn8 := af8.out; have hn9 := o5.out; have ho3 := ms.out; have ho4 := am3.out; obtain ⟨dn0, dn1, dn2, dn3, dn4, dn5⟩ := blk3_ al; have p58 : 0 ≤ (0 : Int) := (by omega); have q58 : (0 : Int) < ((bl.length : Int) : Int) := of_decide_eq_true (g0_); have qi58 : (0 < bl.length) = True := eq_true (by omega); obtain ⟨o6, rn, du8, du9, gl58, cl58, HG58⟩ := Kd.R_form aw.out (by omega); (first | cases du8 | (injection du8 with ea_ en_ ec_; (first | subst ea_ | (injection ea_ with ea_; subst ea_)); subst ec_; clear en_)); have GB58 := Aside0.mk du9; have GG58 := Aside0.mk HG58; clear du9 gl58 HG58; obtain ⟨dv0, hf58_0⟩ := Kd.R_celln 0 aw.out (0 : Int) p58 q58; (try rw [show ((0 : Int)).toNat = 0 from rfl] at dv0); (try simp only [Nat.reduceMul, Nat.zero_mul, Nat.zero_add, Nat.reduceAdd] at dv0); (try rw [show ((0 : Int)).toNat = 0 from rfl] at hf58_0); (try simp only [Nat.reduceMul, Nat.zero_mul, Nat.zero_add, Nat.reduceAdd] at hf58_0); replace p58 := eq_true p58; replace q58 := eq_true q58; obtain ⟨hy64_, hz64_⟩ := Kd.R_celln 0 aw.out (0 : Int) (by omega) (of_decide_eq_true (g0_)); (try simp only [Int.reduceToNat, Int.toNat_zero, Int.toNat_ofNat, Nat.reduceMul, Nat.zero_mul, Nat.zero_add] at hy64_ hz64_); (try rw [show ((0 : Int)).toNat = 0 from rfl] at hy64_); (try rw [show ((0 : Int)).toNat = 0 from rfl] at hz64_); have HP64 := Kd.R_putg aw.out (0 : Int) (-1)) | ((with_reducible refine gate_store (t := 3) (p := 39) rfl ?_); refine store_event (t := 3) (p := 39) (v := ?vo_w65) (w1 := (w60.setCell ⟨o6, (0 : Int).toNat, none⟩ (.int .i64 (-1)))) ?hg ?ho ?hn ?hr ?_; (case ho => rfl); (case hg => rfl); (case hn => rfl); (case hr => first | (go_simp; done) | (go_simp; rfl)); intro w65 hw; have hg : w60.grownBy w65 (some o6) := (by rw [hw]; exact HP64.2); have hp_ : Kd.R (Kd.int .i64) 3 w65 w.heap.size (fun _ => True) (.slice (some ⟨o6, 0, none⟩) bl.length rn) du7 := (by rw [hw, fl1.out]; exact HP64.1); clear HP64; replace bc := Aside0.mk (Kd.S_after (v := (.slice (some ⟨o6, 0, none⟩) bl.length rn)) (v1 := (.slice (some ⟨o6, 0, none⟩) bl.length rn)) (ok := (fun _ => True)) (by (with_reducible repeat (first | apply Kd.S_alloc | apply Kd.S_drewN | apply Kd.S_drew)); exact Kd.S_mono bc.out (fun _ hk => ⟨trivial, hk⟩)) hg (.inl rfl)); replace bf := Aside0.mk (Kd.Q_after (v := (.slice (some ⟨o6, 0, none⟩) bl.length rn)) (v1 := (.slice (some ⟨o6, 0, none⟩) bl.length rn)) (ok := (fun k_ => some k_ ≠ (uh : Value).ownBlock)) (by (with_reducible repeat (first | apply Kd.Q_alloc | apply Kd.Q_drewN | apply Kd.Q_drew)); exact Kd.Q_mono bf.out (fun _ hk => ⟨hk.2, hk.1⟩)) hg (.inl rfl)); replace bj := Aside0.mk (blk_grown (g := cy) (o := .cells #[.slice none 0 0, .slice none 0 0, .slice none 0 0] 28 (0, 0)) (uf0_ bj) hg (Kd.R_ne aw.out bj.out (by decide))); replace al := Aside0.mk (blk_grown (g := cf) (o := .cells #[.slice (some ⟨o6, 0, none⟩) bl.length rn, uh, wq] 28 (0, 0)) (uf0_ al) hg (Kd.R_ne aw.out al.out (by decide))); replace HI0 := Aside0.mk (IsS112.grown (bi) hg (IsS112.own_ne HI0.out aw.out (by decide))); replace HB := Aside0.mk ((by rw [hw]; exact below_set (HB.out) (Nat.le_trans HL.out GB58.out) : Below w0.heap.size w0 w65)); replace HK := Aside0.mk (KeepBut.trans (da) (KeepBut.of_grown hg g) (Kd.R_base2 aw.out)); replace aw := Aside0.mk (hp_); clear hg hw hp_; obtain ⟨ho7, ho8, hp0, hp8, hp9, hq0⟩ := blk3_ al; have es4 := mr.out; have es5 := ba3.out; obtain ⟨ci1, ci2, ci3, ci4, ci5, ci6⟩ := blk3_ bj; obtain ⟨ba4, ba5, fl2⟩ := Kd.S_slice bc.out; subst fl2; obtain ⟨bq8, bq9, fl3, _⟩ := Kd.Q_slice bf.out; subst fl3))
      refine bodyPost_ret (results_cell_row rfl _ _ cy 28 #[.slice (some ⟨o6, 0, none⟩) bl.length rn, .slice ba4 cg.length ba5, .slice bq8 cz.length bq9] (0, 0) _ rfl (by (with_reducible repeat (first | refine blk_drewN ?_ _ | refine blk_drew ?_ | refine blk_alloc ?_ _)); refine blk_put (cs := #[.slice (some ⟨o6, 0, none⟩) bl.length rn, .slice ba4 cg.length ba5, .slice none 0 0]) ?_ 2 _ rfl; refine blk_put (cs := #[.slice (some ⟨o6, 0, none⟩) bl.length rn, .slice none 0 0, .slice none 0 0]) ?_ 1 _ rfl; refine blk_put (cs := #[.slice none 0 0, .slice none 0 0, .slice none 0 0]) ?_ 0 _ rfl; exact uf0_ bj) Try.underlying28 rfl (g1_)) rfl ?_
      exact ⟨_, _, _, g4_, by (with_reducible repeat (first | apply Kd.R_alloc | apply Kd.R_drewN | apply Kd.R_drew)); exact Kd.R_mono (Kd.R_far (p := ⟨cy, 2, none⟩) (Kd.R_far (p := ⟨cy, 1, none⟩) (Kd.R_far (p := ⟨cy, 0, none⟩) (Kd.R_types aw.out bj.out (by decide)) (fun _ hk => hk.2) (.slice (some ⟨o6, 0, none⟩) bl.length rn)) (fun _ hk => hk.2) (.slice ba4 cg.length ba5)) (fun _ hk => hk.2) (.slice bq8 cz.length bq9)) (fun _ hk => trivial), by (with_reducible repeat (first | apply Kd.S_alloc | apply Kd.S_drewN | apply Kd.S_drew)); exact Kd.S_mono (Kd.S_far (p := ⟨cy, 2, none⟩) (Kd.S_far (p := ⟨cy, 1, none⟩) (Kd.S_far (p := ⟨cy, 0, none⟩) (Kd.S_types bc.out bj.out (by decide)) (fun _ hk => hk.2) (.slice (some ⟨o6, 0, none⟩) bl.length rn)) (fun _ hk => hk.2) (.slice ba4 cg.length ba5)) (fun _ hk => hk.2) (.slice bq8 cz.length bq9)) (fun _ hk => hk.1.2), by (with_reducible repeat (first | apply Kd.Q_alloc | apply Kd.Q_drewN | apply Kd.Q_drew)); exact Kd.Q_mono (Kd.Q_far (p := ⟨cy, 2, none⟩) (Kd.Q_far (p := ⟨cy, 1, none⟩) (Kd.Q_far (p := ⟨cy, 0, none⟩) (Kd.Q_types bf.out bj.out (by decide)) (fun _ hk => hk.2) (.slice (some ⟨o6, 0, none⟩) bl.length rn)) (fun _ hk => hk.2) (.slice ba4 cg.length ba5)) (fun _ hk => hk.2) (.slice bq8 cz.length bq9)) (fun _ hk => ⟨hk.1.2, hk.1.1⟩), bi, e6, da⟩
     ·rw [if_neg c56] at H
      have fk9 : (qd == 0) = false := beq_eq_false_iff_ne.mpr c56
      have fl0 : (qd != 0) = true := bne_iff_ne.mpr c56
      by_cases zk : qd = 1
      ·rw [if_pos zk] at H
       have fl4 : (qd == 1) = true := beq_iff_eq.mpr zk
       have fl5 : (qd != 1) = false := bne_eq_false_iff_eq.mpr zk
       clear zk
       obtain ⟨c72, H⟩ := pos_ H
       have hq1 := eq_true c72
       have hq2 := decide_eq_true c72
       clear c72
       obtain ⟨ba6, hy421⟩ : ∃ y_ : List Int, y_ = (List.replicate 5 0) := ⟨_, rfl⟩
       replace H : (if cz.length < 2932031007402 then (some (bl, cg, (cz ++ [(⟨ba6, ([] : List (List Int))⟩ : S25)]), am7)) else (none)) = some (r1, r2, r3, r4) := by first | (rw [hy421]; with_reducible exact H) | (have H2_ := (Option.bind_some _ _).symm.trans H; rw [hy421]; with_reducible exact H2_) | (have H2_ := (Option.bind_some _ _).symm.trans H; with_reducible exact H2_) | with_reducible exact H | (rw [hy421]; exact H) | exact H
       have dv1 := Aside0.mk hy421
       clear hy421
       obtain ⟨c73, H⟩ := pos_ H
       have fl6 := Aside0.mk c73
       clear c73
       obtain ⟨zz, hy424⟩ : ∃ y_ : List (S25), y_ = (cz ++ [(⟨ba6, ([] : List (List Int))⟩ : S25)]) := ⟨_, rfl⟩
       replace H : (some (bl, cg, zz, am7)) = some (r1, r2, r3, r4) := by first | (rw [hy424]; with_reducible exact H) | (have H2_ := (Option.bind_some _ _).symm.trans H; rw [hy424]; with_reducible exact H2_) | (have H2_ := (Option.bind_some _ _).symm.trans H; with_reducible exact H2_) | with_reducible exact H | (rw [hy424]; exact H) | exact H
       have fl7 := Aside0.mk hy424
       clear hy424
       simp only [Option.some.injEq, Prod.mk.injEq] at H
       obtain ⟨rfl, rfl, rfl, rfl⟩ := H
       try go_wp2_with (first | ((with_reducible refine gate_callee (f := 106) rfl ?_); refine goesL_ (some 30) rfl rfl Try.func106 k_ rfl #[.pointer (some ⟨g, 0, none⟩), .int .i64 a1] rfl (g2_) ?_; (with_reducible refine (spec_l20Rd_odd.calls k1 g ac dp a1 true nm w0 _ ?side1 ?side2 A53.out).mono ?_); (case side1 => exact bi); (case side2 => exact e6); rintro e w74 ⟨rfl, hi, hb, hk⟩; refine ⟨_, rfl, ?_⟩; replace aw := Aside0.mk (Kd.R_mono (Kd.R_keep (IsS112.apart (show IsS112 w0 _ g ac dp from bi) (uf2_ aw) (by decide)) hk (fun _ h => h.2)) (fun _ h => h.1)); replace bc := Aside0.mk (Kd.S_mono (Kd.S_keep (IsS112.apartS (show IsS112 w0 _ g ac dp from bi) (uf3_ bc) (by decide)) hk (fun _ h => h.2)) (fun _ h => h.1)); replace bf := Aside0.mk (Kd.Q_mono (Kd.Q_keep (IsS112.apartQ (show IsS112 w0 _ g ac dp from bi) (uf6_ bf) (by decide)) hk (fun _ h => h.2)) (fun _ h => h.1)); replace bj := kb_ hk bj mr; replace al := kb_ hk al ms; replace HK := Aside0.mk (KeepBut.trans (da) hk (.inl rfl)); replace HB := Aside0.mk (hb); replace HI0 := Aside0.mk (hi); (try clear hb); (try clear hk hi)) | ((with_reducible refine gate_callee (f := 70) rfl ?_); refine goesL_ (some 32) rfl rfl Try.func70 k_ rfl #[.pointer (some ⟨g, 0, none⟩), .int .i64 3] rfl (g2_) ?_; (with_reducible refine (spec_l20Rd_pick.calls k1 g ac nm 3 qd am7 w0 _ ?side1 ?side2 A55.out).mono ?_); (case side1 => exact bi); (case side2 => exact e6); rintro e w75 ⟨rfl, hi, hb, hk⟩; refine ⟨_, rfl, ?_⟩; replace aw := Aside0.mk (Kd.R_mono (Kd.R_keep (IsS112.apart (show IsS112 w0 _ g ac nm from bi) (uf2_ aw) (by decide)) hk (fun _ h => h.2)) (fun _ h => h.1)); replace bc := Aside0.mk (Kd.S_mono (Kd.S_keep (IsS112.apartS (show IsS112 w0 _ g ac nm from bi) (uf3_ bc) (by decide)) hk (fun _ h => h.2)) (fun _ h => h.1)); replace bf := Aside0.mk (Kd.Q_mono (Kd.Q_keep (IsS112.apartQ (show IsS112 w0 _ g ac nm from bi) (uf6_ bf) (by decide)) hk (fun _ h => h.2)) (fun _ h => h.1)); replace bj := kb_ hk bj mr; replace al := kb_ hk al ms; replace HK := Aside0.mk (KeepBut.trans (da) hk (.inl rfl)); replace HB := Aside0.mk (hb); replace HI0 := Aside0.mk (hi); (try clear hb); (try clear hk hi)))
       replace aw := Aside0.mk (Kd.R_drew aw.out)
       replace bc := Aside0.mk (Kd.S_drew bc.out)
       replace bf := Aside0.mk (Kd.Q_drew bf.out)
       replace bj := Aside0.mk (blk_drew bj.out)
       replace al := Aside0.mk (blk_drew al.out)
       replace HI0 := Aside0.mk (IsS112.drew HI0.out)
       replace HK := Aside0.mk (keep_drew HK.out)
       replace HB := Aside0.mk (below_drew1 HB.out)
       refine start_ (n := 8) (S := fun w' => w'.cell? ⟨cf, 0, none⟩ = some (wo) ∧ w'.cell? ⟨cf, 1, none⟩ = some (uh) ∧ w'.cell? ⟨cf, 2, none⟩ = some (wq)) (ds := [7]) (tl_ 8 0) (g1_) rfl (g1_) ⟨(blk_cell al.out 0).trans rfl, (blk_cell al.out 1).trans rfl, (blk_cell al.out 2).trans rfl⟩ (fun hHeld => ?_); refine with_tabW spec_l20Desk.tab14 spec_l20Desk.bits14 (fun HT_ HW_ => ?_)
       generalize w75.drew = w76 at aw bc bf bj al HI0 HK HB hHeld ⊢
       refine pw_ 0 42 (tl_ 8 1) rfl rfl ?_
       refine tk2_ 1 43 (tl_ 8 3) rfl rfl hHeld ?_
       refine one_ (i := 2) (N := some 44) (tl_ 8 7) rfl rfl (one_of HT_.out (g1_)) (by decide) (fun K hK => ?_)
       refine Kd.R_make_step (Kd.int .i64) _ 3 (by rfl) (N := 44) rfl 22 _ _ rfl 5 rfl rfl Try.underlying22 (.int .i64 0) 8 info3 rfl (by decide) (by omega) 0 (ok := fun _ => True) (okp := fun _ => True) rfl (fun _ hk => hk) trivial (by omega) (by omega) (Below.refl _ _) (Nat.le_refl _) ?_
       intro hq3 w77 z1 hb hg_ hnew_
       clear hg_ hnew_
       (first | rw [← dv1.out] at z1 | (simp only [Int.reduceToNat] at z1; rw [← dv1.out] at z1))
       replace bc := Aside0.mk (Kd.S_elder' (uf3_ bc) (Kd.R_base z1) hb)
       replace bf := Aside0.mk (Kd.Q_elder' (uf6_ bf) (Kd.R_base z1) hb)
       have cm6 := Aside0.mk (Kd.R_lower (Kd.R_new' z1 (Kd.R_lt (uf2_ aw))) (keep_size (w := w) (g := g) (row := none) (da)))
       replace aw := Aside0.mk (Kd.R_elder' (uf2_ aw) (Kd.R_base z1) hb)
       replace bj := bb_ bj hb
       replace al := bb_ al hb
       replace HK := Aside0.mk (KeepBut.trans (da) (KeepBut.of_below hb g none) (.inl rfl))
       replace HB := Aside0.mk (below_step (e6) hb)
       replace HI0 := Aside0.mk (IsS112.below (bi) hb)
       clear hb z1
       obtain ⟨fl8, fl9, dv2⟩ := Kd.R_slice cm6.out
       (first | subst dv2 | (injection dv2 with f1_ f2_ f3_; have f4_ := f1_.symm; have f5_ := f3_.symm; clear f1_ f2_ f3_; subst f4_; subst f5_))
       refine hK.out _ _ ⟨(blk_cell al.out 0).trans rfl, (blk_cell al.out 1).trans rfl, (blk_cell al.out 2).trans rfl⟩ (fun hHeld => ?_)
       clear hK K
       refine nm_ ?_
       refine pw_ 3 45 (tl_ 8 15) rfl rfl ?_
       refine one_ (i := 4) (N := some 46) (tl_ 8 31) rfl rfl (one_of HT_.out (g1_)) (by decide) (fun K hK => ?_)
       refine value_ (w1 := ?_) (v := ?_) (by rfl) rfl ?_ ?_
       rotate_left 2
       ·go_simp
        constructor
        ·rfl
        ·rfl
       refine hK.out _ _ ⟨(blk_cell (blk_alloc al.out _) 0).trans rfl, (blk_cell (blk_alloc al.out _) 1).trans rfl, (blk_cell (blk_alloc al.out _) 2).trans rfl⟩ (fun hHeld => ?_)
       clear hK K
       refine nm_ ?_
       refine one_ (i := 5) (N := some 47) (tl_ 8 63) rfl rfl (one_of HT_.out (g1_)) (by decide) (fun K hK => ?_)
       refine Kd.Q_append_step k25 w.heap.size (by rfl) (.tmp 43) (.tmp 46) 26 25 (.agg #[(.slice none 0 0), (.slice none 0 0)]) 48 rfl Try.underlying26 info25 rfl (by decide) (by omega) wq cz (⟨ba6, ([] : List (List Int))⟩ : S25) [.slice fl8 ba6.length fl9, .slice none 0 0] (fun k_ => some k_ ≠ (wo : Value).ownBlock ∧ some k_ ≠ (uh : Value).ownBlock) (fun k_ => ((fun k_ => some k_ ≠ (wo : Value).ownBlock ∧ some k_ ≠ (uh : Value).ownBlock)) k_ ∧ some k_ ≠ (wq : Value).ownBlock) rfl rfl ?aP (fun _ hk => hk) ?aF ?aO (Below.refl _ _) ?aS ?aL ?_
       (case aP => exact k25_mkM _ _ _ (⟨ba6, ([] : List (List Int))⟩ : S25) (Kd.R_mono (Kd.R_apart' (Kd.R_apart' (cm6.out) (Kd.S_typed bc.out) (by decide)) (Kd.Q_typed bf.out) (by decide)) (fun k_ hk => ⟨⟨hk.1.1.2, hk.1.2⟩, hk.2⟩)) (Kd.R_nil _ _ _ _ _))
       (case aF => exact (fun k_ hk => ⟨Kd.fresh' (Kd.R_lt (uf2_ aw)) k_ hk, Kd.fresh' (Kd.S_lt (uf3_ bc)) k_ hk⟩))
       (case aO => exact (by (with_reducible repeat (first | apply Kd.Q_alloc | apply Kd.Q_drewN | apply Kd.Q_drew)); exact Kd.Q_mono bf.out (fun _ hk => ⟨hk.1.1, hk.1.2⟩)))
       (case aS => exact (keep_size (w := w) (g := g) (row := none) (da)))
       (case aL => have := fl6.out; omega)
       intro hq4 w80 ho hb hg hat
       rw [← fl7.out] at ho
       replace aw := Aside0.mk (Kd.R_over' (uf2_ aw) (Kd.Q_typed (uf6_ bf)) (by decide) hg)
       replace bc := Aside0.mk (Kd.S_over' (uf3_ bc) (Kd.Q_typed (uf6_ bf)) (by decide) hg)
       replace bj := Aside0.mk (blk_grown (g := cy) (o := .cells #[.slice none 0 0, .slice none 0 0, .slice none 0 0] 28 (0, 0)) (uf0_ bj) hg (Kd.Q_ne bf.out bj.out (by decide)))
       replace al := Aside0.mk (blk_grown (g := cf) (o := .cells #[wo, uh, wq] 28 (0, 0)) (uf0_ al) hg (Kd.Q_ne bf.out al.out (by decide)))
       replace HB := Aside0.mk (below_weaken (e6) HL.out hb)
       replace HI0 := Aside0.mk (IsS112.grown (bi) hg (IsS112.own_neQ HI0.out bf.out (by decide)))
       replace HK := Aside0.mk (KeepBut.trans (da) (KeepBut.of_grown hg g) (Kd.Q_base2 bf.out))
       have dv3 := Aside0.mk (ho)
       clear bf cm6
       clear ho hb hg hat
       obtain ⟨af9, ag0, dv4, _⟩ := Kd.Q_slice dv3.out
       (first | subst dv4 | (injection dv4 with f1_ f2_ f3_; have f4_ := f1_.symm; have f5_ := f3_.symm; clear f1_ f2_ f3_; subst f4_; subst f5_))
       refine hK.out _ _ ⟨(blk_cell al.out 0).trans rfl, (blk_cell al.out 1).trans rfl, (blk_cell al.out 2).trans rfl⟩ (fun hHeld => ?_)
       clear hK K
       refine nm_ ?_
       refine pw_ 6 48 (tl_ 8 127) rfl rfl ?_
       refine last_ (i := 7) (N := none) (tl_ 8 255) rfl rfl (one_of HT_.out (g1_)) (by decide) (fun K hK => ?_)
       have hq5 : w80.cell? ⟨cf, 2, none⟩ = some (wq) := (blk_cell al.out 2).trans rfl
       have hq6 := blk_frozen al.out 2
       have hq7 := o5.out
       have hq8 := af8.out
       refine skip_ (w1 := ?_) (by rfl) rfl ?_ ?_
       rotate_left
       ·go_simp
        rfl
       refine hK.out _ _ ?_
       clear hK K
       refine done_ (done_of HT_.out (g1_)) ?_
       have ev8 := af8.out
       have ev9 := o5.out
       have ew0 := ms.out
       have ew1 := am3.out
       obtain ⟨dj6, dj7, dj8, dj9, dk0, dk1⟩ := blk3_ al
       obtain ⟨am8, am9, fm0⟩ := Kd.R_slice aw.out
       subst fm0
       have hq9 := mr.out
       have hr3 := ba3.out
       obtain ⟨hr4, hr5, hr6, hr7, hr8, hr9⟩ := blk3_ bj
       obtain ⟨p7, p8, cj2⟩ := Kd.S_slice bc.out
       subst cj2
       try go_wp2
       refine bodyPost_ret (results_cell_row rfl _ _ cy 28 #[.slice am8 bl.length am9, .slice p7 cg.length p8, .slice af9 zz.length ag0] (0, 0) _ rfl (by (with_reducible repeat (first | refine blk_drewN ?_ _ | refine blk_drew ?_ | refine blk_alloc ?_ _)); refine blk_put (cs := #[.slice am8 bl.length am9, .slice p7 cg.length p8, .slice none 0 0]) ?_ 2 _ rfl; refine blk_put (cs := #[.slice am8 bl.length am9, .slice none 0 0, .slice none 0 0]) ?_ 1 _ rfl; refine blk_put (cs := #[.slice none 0 0, .slice none 0 0, .slice none 0 0]) ?_ 0 _ rfl; refine blk_far ?_ o5.out _; exact uf0_ bj) Try.underlying28 rfl (g1_)) rfl ?_
       exact ⟨_, _, _, g4_, by (with_reducible repeat (first | apply Kd.R_alloc | apply Kd.R_drewN | apply Kd.R_drew)); exact Kd.R_mono (Kd.R_far (p := ⟨cy, 2, none⟩) (Kd.R_far (p := ⟨cy, 1, none⟩) (Kd.R_far (p := ⟨cy, 0, none⟩) (Kd.R_far (p := ⟨cf, 2, none⟩) (Kd.R_types (Kd.R_types aw.out al.out (by decide)) bj.out (by decide)) (fun _ hk => hk.1.2) (.slice af9 zz.length ag0)) (fun _ hk => hk.2) (.slice am8 bl.length am9)) (fun _ hk => hk.2) (.slice p7 cg.length p8)) (fun _ hk => hk.2) (.slice af9 zz.length ag0)) (fun _ hk => trivial), by (with_reducible repeat (first | apply Kd.S_alloc | apply Kd.S_drewN | apply Kd.S_drew)); exact Kd.S_mono (Kd.S_far (p := ⟨cy, 2, none⟩) (Kd.S_far (p := ⟨cy, 1, none⟩) (Kd.S_far (p := ⟨cy, 0, none⟩) (Kd.S_far (p := ⟨cf, 2, none⟩) (Kd.S_types (Kd.S_types bc.out al.out (by decide)) bj.out (by decide)) (fun _ hk => hk.1.2) (.slice af9 zz.length ag0)) (fun _ hk => hk.2) (.slice am8 bl.length am9)) (fun _ hk => hk.2) (.slice p7 cg.length p8)) (fun _ hk => hk.2) (.slice af9 zz.length ag0)) (fun _ hk => hk.1.1.1), by (with_reducible repeat (first | apply Kd.Q_alloc | apply Kd.Q_drewN | apply Kd.Q_drew)); exact Kd.Q_mono (Kd.Q_far (p := ⟨cy, 2, none⟩) (Kd.Q_far (p := ⟨cy, 1, none⟩) (Kd.Q_far (p := ⟨cy, 0, none⟩) (Kd.Q_far (p := ⟨cf, 2, none⟩) (Kd.Q_types (Kd.Q_types dv3.out al.out (by decide)) bj.out (by decide)) (fun _ hk => hk.1.2) (.slice af9 zz.length ag0)) (fun _ hk => hk.2) (.slice am8 bl.length am9)) (fun _ hk => hk.2) (.slice p7 cg.length p8)) (fun _ hk => hk.2) (.slice af9 zz.length ag0)) (fun _ hk => ⟨hk.1.1.1, hk.1.1.2⟩), bi, e6, da⟩
      ·rw [if_neg zk] at H
       have fl4 : (qd == 1) = false := beq_eq_false_iff_ne.mpr zk
       have fl5 : (qd != 1) = true := bne_iff_ne.mpr zk
       simp only [Option.some.injEq, Prod.mk.injEq] at H
       obtain ⟨rfl, rfl, rfl, rfl⟩ := H
       go_wp2_with (first | ((with_reducible refine gate_callee (f := 106) rfl ?_); refine goesL_ (some 30) rfl rfl Try.func106 k_ rfl #[.pointer (some ⟨g, 0, none⟩), .int .i64 a1] rfl (g2_) ?_; (with_reducible refine (spec_l20Rd_odd.calls k1 g ac dp a1 true nm w0 _ ?side1 ?side2 A53.out).mono ?_); (case side1 => exact bi); (case side2 => exact e6); rintro e w90 ⟨rfl, hi, hb, hk⟩; refine ⟨_, rfl, ?_⟩; replace aw := Aside0.mk (Kd.R_mono (Kd.R_keep (IsS112.apart (show IsS112 w0 _ g ac dp from bi) (uf2_ aw) (by decide)) hk (fun _ h => h.2)) (fun _ h => h.1)); replace bc := Aside0.mk (Kd.S_mono (Kd.S_keep (IsS112.apartS (show IsS112 w0 _ g ac dp from bi) (uf3_ bc) (by decide)) hk (fun _ h => h.2)) (fun _ h => h.1)); replace bf := Aside0.mk (Kd.Q_mono (Kd.Q_keep (IsS112.apartQ (show IsS112 w0 _ g ac dp from bi) (uf6_ bf) (by decide)) hk (fun _ h => h.2)) (fun _ h => h.1)); replace bj := kb_ hk bj mr; replace al := kb_ hk al ms; replace HK := Aside0.mk (KeepBut.trans (da) hk (.inl rfl)); replace HB := Aside0.mk (hb); replace HI0 := Aside0.mk (hi); (try clear hb); (try clear hk hi)) | ((with_reducible refine gate_callee (f := 70) rfl ?_); refine goesL_ (some 32) rfl rfl Try.func70 k_ rfl #[.pointer (some ⟨g, 0, none⟩), .int .i64 3] rfl (g2_) ?_; (with_reducible refine (spec_l20Rd_pick.calls k1 g ac nm 3 qd am7 w0 _ ?side1 ?side2 A55.out).mono ?_); (case side1 => exact bi); (case side2 => exact e6); rintro e w91 ⟨rfl, hi, hb, hk⟩; refine ⟨_, rfl, ?_⟩; replace aw := Aside0.mk (Kd.R_mono (Kd.R_keep (IsS112.apart (show IsS112 w0 _ g ac nm from bi) (uf2_ aw) (by decide)) hk (fun _ h => h.2)) (fun _ h => h.1)); replace bc := Aside0.mk (Kd.S_mono (Kd.S_keep (IsS112.apartS (show IsS112 w0 _ g ac nm from bi) (uf3_ bc) (by decide)) hk (fun _ h => h.2)) (fun _ h => h.1)); replace bf := Aside0.mk (Kd.Q_mono (Kd.Q_keep (IsS112.apartQ (show IsS112 w0 _ g ac nm from bi) (uf6_ bf) (by decide)) hk (fun _ h => h.2)) (fun _ h => h.1)); replace bj := kb_ hk bj mr; replace al := kb_ hk al ms; replace HK := Aside0.mk (KeepBut.trans (da) hk (.inl rfl)); replace HB := Aside0.mk (hb); replace HI0 := Aside0.mk (hi); (try clear hb); (try clear hk hi); have hs0 := o5.out; have hs1 := af8.out; have ff1 := mr.out; have ff2 := ba3.out; obtain ⟨hs2, hs3, hs4, hs5, hs6, hs7⟩ := blk3_ bj))
       refine bodyPost_ret (results_cell_row rfl _ _ cy 28 #[.slice none 0 0, .slice none 0 0, .slice none 0 0] (0, 0) _ rfl (by (with_reducible repeat (first | refine blk_drewN ?_ _ | refine blk_drew ?_ | refine blk_alloc ?_ _)); refine blk_put (cs := #[.slice none 0 0, .slice none 0 0, .slice none 0 0]) ?_ 2 _ rfl; refine blk_put (cs := #[.slice none 0 0, .slice none 0 0, .slice none 0 0]) ?_ 1 _ rfl; refine blk_put (cs := #[.slice none 0 0, .slice none 0 0, .slice none 0 0]) ?_ 0 _ rfl; exact uf0_ bj) Try.underlying28 rfl (g1_)) rfl ?_
       exact ⟨_, _, _, g4_, g16_, g34_, Kd.Q_of_R (g16_), bi, e6, da⟩
    ·replace c54 := Bool.eq_false_iff.mpr c54
     subst c54
     replace H := ifn_ H
     simp only [Option.some.injEq, Prod.mk.injEq] at H
     obtain ⟨rfl, rfl, rfl, rfl⟩ := H
     go_wp2_with (first | ((with_reducible refine gate_callee (f := 106) rfl ?_); refine goesL_ (some 30) rfl rfl Try.func106 k_ rfl #[.pointer (some ⟨g, 0, none⟩), .int .i64 a1] rfl (g2_) ?_; (with_reducible refine (spec_l20Rd_odd.calls k1 g ac dp a1 false nm w0 _ ?side1 ?side2 A53.out).mono ?_); (case side1 => exact bi); (case side2 => exact e6); rintro e w95 ⟨rfl, hi, hb, hk⟩; refine ⟨_, rfl, ?_⟩; replace aw := Aside0.mk (Kd.R_mono (Kd.R_keep (IsS112.apart (show IsS112 w0 _ g ac dp from bi) (uf2_ aw) (by decide)) hk (fun _ h => h.2)) (fun _ h => h.1)); replace bc := Aside0.mk (Kd.S_mono (Kd.S_keep (IsS112.apartS (show IsS112 w0 _ g ac dp from bi) (uf3_ bc) (by decide)) hk (fun _ h => h.2)) (fun _ h => h.1)); replace bf := Aside0.mk (Kd.Q_mono (Kd.Q_keep (IsS112.apartQ (show IsS112 w0 _ g ac dp from bi) (uf6_ bf) (by decide)) hk (fun _ h => h.2)) (fun _ h => h.1)); replace bj := kb_ hk bj mr; replace al := kb_ hk al ms; replace HK := Aside0.mk (KeepBut.trans (da) hk (.inl rfl)); replace HB := Aside0.mk (hb); replace HI0 := Aside0.mk (hi); (try clear hb); (try clear hk hi); have hs8 := af8.out; have hs9 := o5.out; have ff3 := ms.out; have ff4 := am3.out; obtain ⟨ht0, ht1, ht3, ht4, ht5, ht6⟩ := blk3_ al; obtain ⟨an0, an1, fm1⟩ := Kd.R_slice aw.out; subst fm1; have ht7 := mr.out; have ht8 := ba3.out; obtain ⟨ht9, hu3, hu4, hu5, hu6, hu7⟩ := blk3_ bj; obtain ⟨we, wg, cj3⟩ := Kd.S_slice bc.out; subst cj3; obtain ⟨br0, br1, fm2, _⟩ := Kd.Q_slice bf.out; subst fm2))
     refine bodyPost_ret (results_cell_row rfl _ _ cy 28 #[.slice an0 bl.length an1, .slice we cg.length wg, .slice br0 cz.length br1] (0, 0) _ rfl (by (with_reducible repeat (first | refine blk_drewN ?_ _ | refine blk_drew ?_ | refine blk_alloc ?_ _)); refine blk_put (cs := #[.slice an0 bl.length an1, .slice we cg.length wg, .slice none 0 0]) ?_ 2 _ rfl; refine blk_put (cs := #[.slice an0 bl.length an1, .slice none 0 0, .slice none 0 0]) ?_ 1 _ rfl; refine blk_put (cs := #[.slice none 0 0, .slice none 0 0, .slice none 0 0]) ?_ 0 _ rfl; exact uf0_ bj) Try.underlying28 rfl (g1_)) rfl ?_
     exact ⟨_, _, _, g4_, by (with_reducible repeat (first | apply Kd.R_alloc | apply Kd.R_drewN | apply Kd.R_drew)); exact Kd.R_mono (Kd.R_far (p := ⟨cy, 2, none⟩) (Kd.R_far (p := ⟨cy, 1, none⟩) (Kd.R_far (p := ⟨cy, 0, none⟩) (Kd.R_types aw.out bj.out (by decide)) (fun _ hk => hk.2) (.slice an0 bl.length an1)) (fun _ hk => hk.2) (.slice we cg.length wg)) (fun _ hk => hk.2) (.slice br0 cz.length br1)) (fun _ hk => trivial), by (with_reducible repeat (first | apply Kd.S_alloc | apply Kd.S_drewN | apply Kd.S_drew)); exact Kd.S_mono (Kd.S_far (p := ⟨cy, 2, none⟩) (Kd.S_far (p := ⟨cy, 1, none⟩) (Kd.S_far (p := ⟨cy, 0, none⟩) (Kd.S_types bc.out bj.out (by decide)) (fun _ hk => hk.2) (.slice an0 bl.length an1)) (fun _ hk => hk.2) (.slice we cg.length wg)) (fun _ hk => hk.2) (.slice br0 cz.length br1)) (fun _ hk => hk.1), by (with_reducible repeat (first | apply Kd.Q_alloc | apply Kd.Q_drewN | apply Kd.Q_drew)); exact Kd.Q_mono (Kd.Q_far (p := ⟨cy, 2, none⟩) (Kd.Q_far (p := ⟨cy, 1, none⟩) (Kd.Q_far (p := ⟨cy, 0, none⟩) (Kd.Q_types bf.out bj.out (by decide)) (fun _ hk => hk.2) (.slice an0 bl.length an1)) (fun _ hk => hk.2) (.slice we cg.length wg)) (fun _ hk => hk.2) (.slice br0 cz.length br1)) (fun _ hk => ⟨hk.1.1, hk.1.2⟩), bi, e6, da⟩
def spec_DrawDeskOk.f (k : Nat) (l0 : List Int) : Option (List Int × (List (List Int)) × (List (S25))) := (spec_l20Open.f l0).bind fun bt428 => ((spec_l20Desk.f k bt428.1 bt428.2 2).bind fun bt431 => (some (bt431.1, bt431.2.1, bt431.2.2.1)))
theorem spec_DrawDeskOk.mq {p : Prop} (h : p := by
 repeat' first
 | (with_reducible exact spec_l20Desk.mono _ _ _ _)
 | (with_reducible exact LeO.refl _)
 | (with_reducible exact LeO.none _)
 | (with_reducible refine LeO.ite ?_ ?_)
 | (with_reducible refine LeO.bind ?_ (fun _ => ?_))
 | exact spec_l20Desk.mono _ _ _ _
 | exact LeO.none _
 | refine LeO.ite ?_ ?_
 | refine LeO.bind ?_ (fun _ => ?_)) : p := h
theorem spec_DrawDeskOk.mono : ∀ a0 k, LeO (spec_DrawDeskOk.f k a0) (spec_DrawDeskOk.f (k + 1) a0) := by
 intro a0 k
 unfold spec_DrawDeskOk.f
 exact spec_DrawDeskOk.mq
theorem wv {p : Prop} (h : p := by repeat (first | (with_reducible first | exact HB.out | apply below_alloc | apply pw_below_drewN | apply below_drew1 | refine below_set ?_ fm3.out | refine below_set ?_ (IsS112.ge HI430.out)) | exact HB.out)) : p := h
theorem fn6 {p : Prop} (h : p := by repeat (first | (with_reducible first | exact HI430.out | apply IsS112.alloc | apply IsS112.drewN | apply IsS112.drew | apply IsS112.set_1 | refine IsS112.far ?_ dv5.out _) | exact HI430.out)) : p := h
set_option maxHeartbeats 8000000 in
set_option maxRecDepth 100000 in
theorem spec_DrawDeskOk.calls (k : Nat) (A0 : Option Addr) (c0 : Nat) (l0 : List Int) (r1 : List Int) (r2 : List (List Int)) (r3 : List (S25)) (w : World) (e8 : Kd.C (Kd.int .u8) w A0 l0.length l0) (go : l0.length ≤ c0) (h : spec_DrawDeskOk.f k l0 = some (r1, r2, r3)) :
  Calls Try.prog 30 #[.slice A0 l0.length c0] w fun e w' => ∃ v0_ v1_ v2_ : Value, e = .returned (.agg #[v0_, v1_, v2_]) ∧ Kd.R (Kd.int .i64) 3 w' w.heap.size (fun _ => True) v0_ r1 ∧ Kd.S (Kd.slice 3 (Kd.int .i64)) 22 w' w.heap.size (fun k_ => some k_ ≠ (v0_ : Value).ownBlock) v1_ r2 ∧ Kd.Q k25 25 w' w.heap.size (fun k_ => some k_ ≠ (v0_ : Value).ownBlock ∧ some k_ ≠ (v1_ : Value).ownBlock) v2_ r3 ∧ Below w.heap.size w w' := by
 have hu28 := Try.underlying28
 have jw := Aside0.mk e8
 have ll := Aside0.mk go
 clear e8 go
 have HB := Aside0.mk (Below.refl w.heap.size w)
 have H : ((spec_l20Open.f l0).bind fun bt428 => ((spec_l20Desk.f k bt428.1 bt428.2 2).bind fun bt431 => (some (bt431.1, bt431.2.1, bt431.2.2.1)))) = some (r1, r2, r3) := h
 clear h
 replace H := Option.bind_eq_some_iff.mp H
 obtain ⟨⟨dv6, dv7⟩, ux, H⟩ := H
 try dsimp only at H
 have A2 := Aside0.mk ux
 clear ux
 replace H := Option.bind_eq_some_iff.mp H
 obtain ⟨⟨ag1, an2, ba7, fm4⟩, mj, H⟩ := H
 try dsimp only at H
 have A3 := Aside0.mk mj
 clear mj
 simp only [Option.some.injEq, Prod.mk.injEq] at H
 obtain ⟨rfl, rfl, rfl⟩ := H
 go_enter Try.func30, Try.ntmps30
 go_wp2_with (first | ((with_reducible refine gate_dst (N := 2) rfl ?_); refine bx_ (N := 2) #[.slice none 0 0, .slice none 0 0, .slice none 0 0] 28 ?_; intro oe hg w4 hbox hb; have sw := Aside0.mk (hbox); have hu8 := Aside0.mk ((by rw [hg]; exact (below_size (wv)) : w.heap.size ≤ oe)); have fm3 := Aside0.mk ((by rw [hg]; exact (below_size (wv)) : w.heap.size ≤ oe)); replace HB := Aside0.mk (below_step (wv) hb); clear hb hbox hg) | ((with_reducible refine gate_callee (f := 69) rfl ?_); refine goesL_ (some 4) rfl rfl Try.func69 k_ rfl #[.slice A0 l0.length c0] rfl (g2_) ?_; (with_reducible refine (spec_l20Open.calls _ _ l0 dv6 dv7 w _ ?side1 ?side2 ?side3 A2.out).mono ?_); (case side1 => exact wv); (case side2 => exact jw.out); (case side3 => exact ll.out); rintro e w5 ⟨g430, rfl, hi, hb, hb2⟩; refine ⟨_, rfl, ?_⟩; replace HB := Aside0.mk (hb); have HI430 := Aside0.mk (hi); have dv5 := Aside0.mk (IsS112.ne_blk hi (blk_below (g := oe) (o := .cells #[.slice none 0 0, .slice none 0 0, .slice none 0 0] 28 (0, 0)) (uf0_ sw) hb2) (by decide)); have dv8 := Aside0.mk (Ne.symm (IsS112.ne_blk hi (blk_below (g := oe) (o := .cells #[.slice none 0 0, .slice none 0 0, .slice none 0 0] 28 (0, 0)) (uf0_ sw) hb2) (by decide))); replace sw := Aside0.mk (blk_below (g := oe) (o := .cells #[.slice none 0 0, .slice none 0 0, .slice none 0 0] 28 (0, 0)) (uf0_ sw) hb2); (try clear hb); (try clear hb2); (try clear hk); (try clear hi)) | ((with_reducible refine gate_callee (f := 77) rfl ?_); refine goesL_ (some 5) rfl rfl Try.func77 k_ rfl #[.pointer (some ⟨g430, 0, none⟩), .int .i64 2] rfl (g2_) ?_; (with_reducible refine (spec_l20Desk.calls k g430 dv6 dv7 2 ag1 an2 ba7 fm4 w _ ?side1 ?side2 A3.out).mono ?_); (case side1 => exact fn6); (case side2 => exact wv); rintro e w6 ⟨hu9, hv0, hv1, rfl, am, ba, d3, hi, hb, hk⟩; refine ⟨_, rfl, ?_⟩; replace sw := kb_ hk sw dv8; have dv9 := Aside0.mk (Kd.R_lower am (below_size (wv))); have dw0 := Aside0.mk (Kd.S_lower ba (below_size (wv))); have dw1 := Aside0.mk (Kd.Q_lower d3 (below_size (wv))); replace HB := Aside0.mk (hb); replace HI430 := Aside0.mk (hi); (try clear hb); (try clear hb2); (try clear hk); (try clear hi); (try clear am); (try clear ba); (try clear d3); obtain ⟨rl, rm, eo7⟩ := Kd.R_slice dv9.out; subst eo7; have er3 := dv8.out; have er4 := dv5.out; obtain ⟨br2, br3, hv2, br4, br5, hv3⟩ := blk3_ sw; obtain ⟨gd, gf, aq3⟩ := Kd.S_slice dw0.out; subst aq3; obtain ⟨mm, lv, ay9, _⟩ := Kd.Q_slice dw1.out; subst ay9))
 refine bodyPost_ret (results_cell_row rfl _ _ oe 28 #[.slice rl ag1.length rm, .slice gd an2.length gf, .slice mm ba7.length lv] (0, 0) _ rfl (by (with_reducible repeat (first | refine blk_drewN ?_ _ | refine blk_drew ?_ | refine blk_alloc ?_ _)); refine blk_put (cs := #[.slice rl ag1.length rm, .slice gd an2.length gf, .slice none 0 0]) ?_ 2 _ rfl; refine blk_put (cs := #[.slice rl ag1.length rm, .slice none 0 0, .slice none 0 0]) ?_ 1 _ rfl; refine blk_put (cs := #[.slice none 0 0, .slice none 0 0, .slice none 0 0]) ?_ 0 _ rfl; exact uf0_ sw) Try.underlying28 rfl (g1_)) rfl ?_
 exact ⟨_, _, _, g4_, by (with_reducible repeat (first | apply Kd.R_alloc | apply Kd.R_drewN | apply Kd.R_drew)); exact Kd.R_mono (Kd.R_far (p := ⟨oe, 2, none⟩) (Kd.R_far (p := ⟨oe, 1, none⟩) (Kd.R_far (p := ⟨oe, 0, none⟩) (Kd.R_types dv9.out sw.out (by decide)) (fun _ hk => hk.2) (.slice rl ag1.length rm)) (fun _ hk => hk.2) (.slice gd an2.length gf)) (fun _ hk => hk.2) (.slice mm ba7.length lv)) (fun _ hk => trivial), by (with_reducible repeat (first | apply Kd.S_alloc | apply Kd.S_drewN | apply Kd.S_drew)); exact Kd.S_mono (Kd.S_far (p := ⟨oe, 2, none⟩) (Kd.S_far (p := ⟨oe, 1, none⟩) (Kd.S_far (p := ⟨oe, 0, none⟩) (Kd.S_types dw0.out sw.out (by decide)) (fun _ hk => hk.2) (.slice rl ag1.length rm)) (fun _ hk => hk.2) (.slice gd an2.length gf)) (fun _ hk => hk.2) (.slice mm ba7.length lv)) (fun _ hk => hk.1), by (with_reducible repeat (first | apply Kd.Q_alloc | apply Kd.Q_drewN | apply Kd.Q_drew)); exact Kd.Q_mono (Kd.Q_far (p := ⟨oe, 2, none⟩) (Kd.Q_far (p := ⟨oe, 1, none⟩) (Kd.Q_far (p := ⟨oe, 0, none⟩) (Kd.Q_types dw1.out sw.out (by decide)) (fun _ hk => hk.2) (.slice rl ag1.length rm)) (fun _ hk => hk.2) (.slice gd an2.length gf)) (fun _ hk => hk.2) (.slice mm ba7.length lv)) (fun _ hk => ⟨hk.1.1, hk.1.2⟩), wv⟩
end Go.Proofs.Ytfooakkhkehpiaa.PU
