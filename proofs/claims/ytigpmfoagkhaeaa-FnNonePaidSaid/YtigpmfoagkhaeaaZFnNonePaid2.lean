/- FnNonePaid: for every input the law holds. No condition. -/
import Derived.Test.YtigpmfoagkhaeaaZFnNonePaid1
import Derived.Below
import Derived.Deep.Draws
import Derived.Deep.AppendLies
import Derived.Maps.AppendAt
import Derived.OwnWalk
import Derived.Laws.BytesArg
import Derived.Laws.MakeOwn
import Derived.Laws.OwnMore
import Derived.Deep.OwnRows
import Derived.Tactics
import Derived.Lib.ConvBytes
import Derived.Laws.Slices
import Derived.WalkKit
import Derived.KernelRfl
import Derived.RowKit3
import Derived.Deep.LoopGhost
import Derived.Deep.QuietTactic
import Derived.BigQuiet
import Derived.WideLaws
import Derived.Deep.DeepCutAuto
import Derived.Deep.CutBlock
import Derived.Deep.RegionHeld3
import Derived.Laws.Rows
import Derived.Lib.AppendStr
import Derived.ArgAppend
import Derived.Laws.IdiomCopy
import Derived.RowKit
import Derived.OrdersHeld
import Derived.Laws.BitsLemmas
import Derived.Laws.StructEq
import Derived.Test.YtigpmfoagkhaeaaProg
namespace Go.Proofs.Ytigpmfoagkhaeaa.PU
open Go.RowKit Go.Proofs.YtigpmfoagkhaeaaW.PrintWords Go.Proofs.YtigpmfoagkhaeaaW.PrintLast Go.Proofs.YtigpmfoagkhaeaaW.PrintMore Go.Proofs.Ytigpmfoagkhaeaa.Qd
attribute [local go_sem] max2_int min2_int max_two min_two max_three min_three max_four min_four   -- for this text's walks alone
set_option linter.unusedVariables false
set_option linter.unusedSimpArgs false
mutual
def spec_l20Book.l0 : Nat → Int → Int → Int → Int → List Int → Int → List Int → List (List Int) → Option (List Int × (List (List Int)) × Int)
 | 0, _, _, _, _, _, _, _, _ => none
 | k + 1, x1, x5, x7, x8, x1000, x1001, x114000, x114001 => if x8 < x5 then ((spec_l20Rd_pick.f k x1000 x1001 4).bind fun bt116 => ((spec_l20Rd_pick.f k x1000 bt116.2 21).bind fun bt118 => ((some (([0, bt116.1, bt118.1] : List Int) : List Int)).bind fun y120 => (if 0 ≤ x7 then (if x7 < (y120.length : Int) then (if x114000.length < 17592186044416 then (spec_l20Book.l1 k x1 x5 x7 x8 (([] : List Int)) 0 x1000 bt118.2 (x114000 ++ [rd y120 x7]) x114001) else (none)) else (none)) else (none))))) else ((spec_l20Rd_odd.f k x1000 x1001 x1).bind fun bt146 => (if bt146.1 = true then ((spec_l20Rd_pick.f k x1000 bt146.2 4).bind fun bt148 => (if bt148.1 = 0 then (some (([] : List Int), ([] : List (List Int)), bt148.2)) else (if bt148.1 = 1 then (if 0 < (x114000.length : Int) then (some ((x114000.set (0 : Int).toNat (-1)), x114001, bt148.2)) else (none)) else (if bt148.1 = 2 then (if 0 < (x114001.length : Int) then (if 0 < ((rd_L2 x114001 0).length : Int) then (some (x114000, (x114001.set (0 : Int).toNat ((rd_L2 x114001 0).set (0 : Int).toNat 1)), bt148.2)) else (none)) else (none)) else (if 0 ≤ (wrap64 (x5 - 1)) then (if (wrap64 (x5 - 1)) < (x114001.length : Int) then (if 1 ≤ ((rd_L2 x114001 (wrap64 (x5 - 1))).length : Int) then (some (x114000, (x114001.set ((wrap64 (x5 - 1)) : Int).toNat ((rd_L2 x114001 (wrap64 (x5 - 1))).drop 1)), bt148.2)) else (none)) else (none)) else (none)))))) else (some (x114000, x114001, bt146.2))))
def spec_l20Book.l1 : Nat → Int → Int → Int → Int → List Int → Int → List Int → Int → List Int → List (List Int) → Option (List Int × (List (List Int)) × Int)
 | 0, _, _, _, _, _, _, _, _, _, _ => none
 | k + 1, x1, x5, x7, x8, x9, x10, x1000, x1001, x114000, x114001 => if x10 < x5 then (if x8 = x10 then (if x9.length < 17592186044416 then (spec_l20Book.l1 k x1 x5 x7 x8 (x9 ++ [0]) (wrap64 (x10 + 1)) x1000 x1001 x114000 x114001) else (none)) else ((spec_l20Rd_pick.f k x1000 x1001 3).bind fun bt136 => (if bt136.1 > 0 then ((spec_l20Rd_pick.f k x1000 bt136.2 10).bind fun bt138 => (if x9.length < 17592186044416 then (spec_l20Book.l1 k x1 x5 x7 x8 (x9 ++ [bt138.1]) (wrap64 (x10 + 1)) x1000 bt138.2 x114000 x114001) else (none))) else (if x9.length < 17592186044416 then (spec_l20Book.l1 k x1 x5 x7 x8 (x9 ++ [0]) (wrap64 (x10 + 1)) x1000 bt136.2 x114000 x114001) else (none))))) else (if x114001.length < 5864062014805 then (spec_l20Book.l0 k x1 x5 x7 (wrap64 (x8 + 1)) x1000 x1001 x114000 (x114001 ++ [x9])) else (none))
end
def spec_l20Book.f (k : Nat) (s0_0 : List Int) (s0_1 : Int) (a1 : Int) : Option (List Int × (List (List Int)) × Int) := (some (([1, 2, 3, 3, 4, 4] : List Int) : List Int)).bind fun y107 => ((spec_l20Rd_pick.f k s0_0 s0_1 6).bind fun bt110 => (if 0 ≤ bt110.1 then (if bt110.1 < (y107.length : Int) then ((spec_l20Rd_pick.f k s0_0 bt110.2 3).bind fun bt114 => (spec_l20Book.l0 k a1 (rd y107 bt110.1) bt114.1 0 s0_0 bt114.2 ([] : List Int) ([] : List (List Int)))) else (none)) else (none)))
theorem spec_l20Book.mono_l : ∀ k, (∀ y0 y1 y2 y3 y4 y5 y6 y7, LeO (spec_l20Book.l0 k y0 y1 y2 y3 y4 y5 y6 y7) (spec_l20Book.l0 (k + 1) y0 y1 y2 y3 y4 y5 y6 y7)) ∧ (∀ y0 y1 y2 y3 y4 y5 y6 y7 y8 y9, LeO (spec_l20Book.l1 k y0 y1 y2 y3 y4 y5 y6 y7 y8 y9) (spec_l20Book.l1 (k + 1) y0 y1 y2 y3 y4 y5 y6 y7 y8 y9))
 | 0 => ⟨fun _ _ _ _ _ _ _ _ r h => by simp [spec_l20Book.l0] at h, fun _ _ _ _ _ _ _ _ _ _ r h => by simp [spec_l20Book.l1] at h⟩
 | k + 1 => by
  obtain ⟨ih0, ih1⟩ := spec_l20Book.mono_l k
  refine ⟨?_, ?_⟩
  ·intro y0 y1 y2 y3 y4 y5 y6 y7
   unfold spec_l20Book.l0
   repeat' first
   | (with_reducible exact ih0 _ _ _ _ _ _ _ _)
   | (with_reducible exact ih1 _ _ _ _ _ _ _ _ _ _)
   | (with_reducible exact spec_l20Rd_odd.mono _ _ _ _)
   | (with_reducible exact spec_l20Rd_pick.mono _ _ _ _)
   | (with_reducible exact LeO.refl _)
   | (with_reducible exact LeO.none _)
   | (with_reducible refine LeO.ite ?_ ?_)
   | (with_reducible refine LeO.bind ?_ (fun _ => ?_))
   | exact ih0 _ _ _ _ _ _ _ _
   | exact ih1 _ _ _ _ _ _ _ _ _ _
   | exact spec_l20Rd_odd.mono _ _ _ _
   | exact spec_l20Rd_pick.mono _ _ _ _
   | exact LeO.none _
   | refine LeO.ite ?_ ?_
   | refine LeO.bind ?_ (fun _ => ?_)
  ·intro y0 y1 y2 y3 y4 y5 y6 y7 y8 y9
   unfold spec_l20Book.l1
   repeat' first
   | (with_reducible exact ih0 _ _ _ _ _ _ _ _)
   | (with_reducible exact ih1 _ _ _ _ _ _ _ _ _ _)
   | (with_reducible exact spec_l20Rd_odd.mono _ _ _ _)
   | (with_reducible exact spec_l20Rd_pick.mono _ _ _ _)
   | (with_reducible exact LeO.refl _)
   | (with_reducible exact LeO.none _)
   | (with_reducible refine LeO.ite ?_ ?_)
   | (with_reducible refine LeO.bind ?_ (fun _ => ?_))
   | exact ih0 _ _ _ _ _ _ _ _
   | exact ih1 _ _ _ _ _ _ _ _ _ _
   | exact spec_l20Rd_odd.mono _ _ _ _
   | exact spec_l20Rd_pick.mono _ _ _ _
   | exact LeO.none _
   | refine LeO.ite ?_ ?_
   | refine LeO.bind ?_ (fun _ => ?_)
theorem spec_l20Book.mono : ∀ a0 a1 a2 k, LeO (spec_l20Book.f k a0 a1 a2) (spec_l20Book.f (k + 1) a0 a1 a2) := by
 intro a0 a1 a2 k
 obtain ⟨ih0, ih1⟩ := spec_l20Book.mono_l k
 unfold spec_l20Book.f
 repeat' first
   | (with_reducible exact ih0 _ _ _ _ _ _ _ _)
   | (with_reducible exact ih1 _ _ _ _ _ _ _ _ _ _)
   | (with_reducible exact spec_l20Rd_odd.mono _ _ _ _)
   | (with_reducible exact spec_l20Rd_pick.mono _ _ _ _)
   | (with_reducible exact LeO.refl _)
   | (with_reducible exact LeO.none _)
   | (with_reducible refine LeO.ite ?_ ?_)
   | (with_reducible refine LeO.bind ?_ (fun _ => ?_))
   | exact ih0 _ _ _ _ _ _ _ _
   | exact ih1 _ _ _ _ _ _ _ _ _ _
   | exact spec_l20Rd_odd.mono _ _ _ _
   | exact spec_l20Rd_pick.mono _ _ _ _
   | exact LeO.none _
   | refine LeO.ite ?_ ?_
   | refine LeO.bind ?_ (fun _ => ?_)
def spec_l20Book.T7 : Bool × List (List Nat × List Nat) := (true, [([], []), ([0], [0]), ([], []), ([2], [2]), ([], []), ([4, 3], [4]), ([3, 5], [3, 5]), ([], []), ([6, 7], [6, 7]), ([8], [8]), ([9], [9]), ([1, 10, 5], [1, 10]), ([0, 1, 2, 3, 4, 5, 6, 7, 8, 9, 10, 11], []), ([12, 11, 11, 0, 1, 2, 3, 4, 5, 6, 7, 8, 9, 10, 11], [11, 12])])
def spec_l20Book.B7 : List Nat := [0, 1, 0, 4, 0, 28, 60, 0, 252, 508, 1020, 2047, 4095, 8191]
theorem spec_l20Book.tab7 : rtab .any (opsOf Try.f52 7) = spec_l20Book.T7 := by kernel_rfl
theorem spec_l20Book.bits7 : waitsOk spec_l20Book.T7.2 spec_l20Book.B7 = true := by kernel_rfl
def spec_l20Book.T19 : Bool × List (List Nat × List Nat) := (true, [([], []), ([0], [0]), ([], []), ([2], [2]), ([], []), ([4], [4]), ([], []), ([6], [6]), ([5, 7], [5, 7]), ([8], [8]), ([9], [9]), ([1, 3, 0, 1, 2, 3, 4, 5, 6, 7, 8, 9, 10], [1, 3]), ([11, 10, 0, 1, 2, 3, 4, 5, 6, 7, 8, 9, 10], [10, 11])])
def spec_l20Book.B19 : List Nat := [0, 1, 0, 4, 0, 16, 0, 64, 240, 496, 1008, 2047, 4095]
theorem spec_l20Book.tab19 : rtab .any (opsOf Try.f52 19) = spec_l20Book.T19 := by kernel_rfl
theorem spec_l20Book.bits19 : waitsOk spec_l20Book.T19.2 spec_l20Book.B19 = true := by kernel_rfl
theorem spec_l20Book.calls_q0 {p : Prop} (h : p := by repeat (first | (with_reducible first | exact HI0.out | apply IsS79.alloc | apply IsS79.drewN | apply IsS79.drew | apply IsS79.set_1 | refine IsS79.far ?_ NB0_106.out _ | refine IsS79.far ?_ NB0_113.out _ | refine IsS79.far ?_ HN0_go84.out _) | exact HI0.out)) : p := h
theorem spec_l20Book.calls_q1 {p : Prop} (h : p := by repeat (first | (with_reducible first | exact HK.out | apply KeepBut.set_ | apply keep_drewN | apply keep_drew | apply keep_alloc | refine keep_far ?_ GW106.out _ | refine keep_far ?_ GW113.out _ | refine keep_far ?_ GB84.out _) | exact HK.out)) : p := h
theorem spec_l20Book.calls_q2 {p : Prop} (h : p := by repeat (first | (with_reducible first | exact HB.out | apply below_alloc | apply pw_below_drewN | apply below_drew1 | refine below_set ?_ (IsS79.ge HI0.out) | refine below_set ?_ GE106.out | refine below_set ?_ GE113.out | refine below_set ?_ (Nat.le_trans HL.out GB84.out)) | exact HB.out)) : p := h
set_option maxHeartbeats 8000000 in
set_option maxRecDepth 100000 in
theorem spec_l20Book.calls (k : Nat) (g : Nat) (s0_0 : List Int) (s0_1 : Int) (a1 : Int) (r1 : List Int) (r2 : List (List Int)) (r3 : Int) (w0 w : World) (hI : IsS79 w0 w g s0_0 s0_1) (hB : Below w0.heap.size w0 w) (h : spec_l20Book.f k s0_0 s0_1 a1 = some (r1, r2, r3)) :
  Calls Try.prog 52 #[.pointer (some ⟨g, 0, none⟩), .int .i64 a1] w fun e w' => ∃ v0_ v1_ : Value, e = .returned (.agg #[v0_, v1_]) ∧ Kd.R (Kd.int .i64) 3 w' w.heap.size (fun k_ => (w.heap.size ≤ k_)) v0_ r1 ∧ Kd.V (Kd.slice 3 (Kd.int .i64)) 23 w' w.heap.size (fun k_ => (w.heap.size ≤ k_) ∧ some k_ ≠ (v0_ : Value).ownBlock) v1_ r2 ∧ IsS79 w0 w' g s0_0 r3 ∧ Below w0.heap.size w0 w' ∧ KeepBut w w' g none := by
 have hu26 := Try.underlying26
 have HI0 := Aside0.mk hI
 have HK := Aside0.mk (KeepBut.refl w g none)
 have HL := Aside0.mk hB.size
 clear hI
 have HW0 := Aside0.mk hB.size
 have HB := Aside0.mk hB
 clear hB
 have H : ((some (([1, 2, 3, 3, 4, 4] : List Int) : List Int)).bind fun y107 => ((spec_l20Rd_pick.f k s0_0 s0_1 6).bind fun bt110 => (if 0 ≤ bt110.1 then (if bt110.1 < (y107.length : Int) then ((spec_l20Rd_pick.f k s0_0 bt110.2 3).bind fun bt114 => (spec_l20Book.l0 k a1 (rd y107 bt110.1) bt114.1 0 s0_0 bt114.2 ([] : List Int) ([] : List (List Int)))) else (none)) else (none)))) = some (r1, r2, r3) := h
 clear h
 obtain ⟨y107, hy107⟩ : ∃ y_ : List Int, y_ = (([1, 2, 3, 3, 4, 4] : List Int)) := ⟨_, rfl⟩
 replace H : ((spec_l20Rd_pick.f k s0_0 s0_1 6).bind fun bt110 => (if 0 ≤ bt110.1 then (if bt110.1 < (y107.length : Int) then ((spec_l20Rd_pick.f k s0_0 bt110.2 3).bind fun bt114 => (spec_l20Book.l0 k a1 (rd y107 bt110.1) bt114.1 0 s0_0 bt114.2 ([] : List Int) ([] : List (List Int)))) else (none)) else (none))) = some (r1, r2, r3) := by first | (rw [hy107]; with_reducible exact H) | (have H2_ := (Option.bind_some _ _).symm.trans H; rw [hy107]; with_reducible exact H2_) | (have H2_ := (Option.bind_some _ _).symm.trans H; with_reducible exact H2_) | with_reducible exact H | (rw [hy107]; exact H) | exact H
 have Ny107 := Aside0.mk hy107
 clear hy107
 replace H := Option.bind_eq_some_iff.mp H
 obtain ⟨⟨t110, t111⟩, A30, H⟩ := H
 replace H : (if 0 ≤ t110 then (if t110 < (y107.length : Int) then ((spec_l20Rd_pick.f k s0_0 t111 3).bind fun bt114 => (spec_l20Book.l0 k a1 (rd y107 t110) bt114.1 0 s0_0 bt114.2 ([] : List Int) ([] : List (List Int)))) else (none)) else (none)) = some (r1, r2, r3) := H
 have A3 := Aside0.mk A30
 clear A30
 by_cases c4 : 0 ≤ t110
 ·rw [if_pos c4] at H
  have c4b0 := decide_eq_true c4
  clear c4
  by_cases c5 : t110 < (y107.length : Int)
  ·rw [if_pos c5] at H
   have c5b0 := decide_eq_true c5
   clear c5
   replace H := Option.bind_eq_some_iff.mp H
   obtain ⟨⟨t114, t115⟩, A60, H⟩ := H
   replace H : (spec_l20Book.l0 k a1 (rd y107 t110) t114 0 s0_0 t115 ([] : List Int) ([] : List (List Int))) = some (r1, r2, r3) := H
   have A6 := Aside0.mk A60
   clear A60
   have H' := Aside0.mk H
   clear H
   go_enter Try.func52, Try.ntmps52
   go_wp2_with (first | ((with_reducible refine gate_dst (N := 4) rfl ?_); refine bx_ (N := 4) #[.slice none 0 0, .slice none 0 0] 26 ?_; intro gb106 hg w7 hbox hb; replace HB := Aside0.mk (below_step (spec_l20Book.calls_q2) hb); have BK106 := Aside0.mk (hbox); have GW106 := Aside0.mk ((g84_ : w.heap.size ≤ gb106)); have GE106 := Aside0.mk ((Nat.le_trans HW0.out (g84_ : w.heap.size ≤ gb106) : w0.heap.size ≤ gb106)); replace HK := Aside0.mk (KeepBut.trans (spec_l20Book.calls_q1) (KeepBut.of_below hb g none) (.inl rfl)); have NB0_106 := Aside0.mk ((by rw [hg]; exact Nat.ne_of_lt (IsS79.lt (show IsS79 w0 _ g s0_0 s0_1 from spec_l20Book.calls_q0)) : g ≠ gb106)); have NB106_0 := Aside0.mk ((by rw [hg]; exact Nat.ne_of_gt (IsS79.lt (show IsS79 w0 _ g s0_0 s0_1 from spec_l20Book.calls_q0)) : gb106 ≠ g)); replace HI0 := Aside0.mk (IsS79.below (spec_l20Book.calls_q0) hb); clear hb hbox hg) | ((with_reducible refine gate_dst (N := 12) rfl ?_); refine Kd.R_lit (Kd.int .i64) _ 3 ?hg (N := 12) ?hd (xs := ([1, 2, 3, 3, 4, 4] : List Int)) (inner := [.int .i64 1, .int .i64 2, .int .i64 3, .int .i64 3, .int .i64 4, .int .i64 4]) (ok := fun _ => True) (okp := fun _ => True) ?hr ?hp (fun _ hk => hk) trivial (Below.refl _ _) (Nat.le_refl _) (by simp) ?_; (case hd => rfl); (case hg => rfl); (case hr => first | (go_simp; done) | (go_simp; rfl)); (case hp => exact (Reps.one (show Kd.M (Kd.int .i64) _ _ _ 1 [.int .i64 1] from rfl) (Reps.one (show Kd.M (Kd.int .i64) _ _ _ 2 [.int .i64 2] from rfl) (Reps.one (show Kd.M (Kd.int .i64) _ _ _ 3 [.int .i64 3] from rfl) (Reps.one (show Kd.M (Kd.int .i64) _ _ _ 3 [.int .i64 3] from rfl) (Reps.one (show Kd.M (Kd.int .i64) _ _ _ 4 [.int .i64 4] from rfl) (Reps.one (show Kd.M (Kd.int .i64) _ _ _ 4 [.int .i64 4] from rfl) (Reps.none _ _)))))))); intro v108 w8 ho9 hb hg_ hnew_; clear hg_ hnew_; (first | rw [← Ny107.out] at ho9 | (simp only [Int.reduceToNat] at ho9; rw [← Ny107.out] at ho9)); have HO109 := Aside0.mk (Kd.R_lower (Kd.R_newM (M := fun k_ => (w.heap.size ≤ k_)) ho9 (keep_size (w := w) (g := g) (row := none) (spec_l20Book.calls_q1)) (fun k_ h_ => h_)) (keep_size (w := w) (g := g) (row := none) (spec_l20Book.calls_q1))); replace BK106 := Aside0.mk (blk_below (g := gb106) (o := .cells #[.slice none 0 0, .slice none 0 0] 26 (0, 0)) (uf0_ BK106) hb); replace HK := Aside0.mk (KeepBut.trans (spec_l20Book.calls_q1) (KeepBut.of_below hb g none) (.inl rfl)); replace HB := Aside0.mk (below_step (spec_l20Book.calls_q2) hb); replace HI0 := Aside0.mk (IsS79.below (spec_l20Book.calls_q0) hb); clear hb ho9) | ((with_reducible refine gate_callee (f := 87) rfl ?_); refine goesL_ (some 14) rfl rfl Try.func87 k_ rfl #[.pointer (some ⟨g, 0, none⟩), .int .i64 6] rfl (g2_) ?_; (with_reducible refine (spec_l20Rd_pick.calls k g s0_0 s0_1 6 t110 t111 w0 _ ?side1 ?side2 A3.out).mono ?_); (case side1 => exact spec_l20Book.calls_q0); (case side2 => exact spec_l20Book.calls_q2); rintro e w10 ⟨rfl, hi, hb, hk⟩; refine ⟨_, rfl, ?_⟩; replace BK106 := Aside0.mk (KeepBut.blk hk (g' := gb106) (o := .cells #[.slice none 0 0, .slice none 0 0] 26 (0, 0)) (uf0_ BK106) NB106_0.out (by simp)); replace HO109 := Aside0.mk (Kd.R_mono (Kd.R_keep (IsS79.apart (show IsS79 w0 _ g s0_0 s0_1 from spec_l20Book.calls_q0) (uf1_ HO109) (by decide)) hk (fun _ h => h.2)) (fun _ h => h.1)); replace HK := Aside0.mk (KeepBut.trans (spec_l20Book.calls_q1) hk (.inl rfl)); replace HB := Aside0.mk (hb); replace HI0 := Aside0.mk (hi); (try clear hb); (try clear hk hi); obtain ⟨Ao11, co11, eo11⟩ := Kd.R_slice HO109.out; subst eo11; have p112 : 0 ≤ (t110 : Int) := of_decide_eq_true (g1_); have q112 : t110 < (y107.length : Int) := of_decide_eq_true (g1_); obtain ⟨ad112, e112, hx112_0⟩ := Kd.at_int (Kd.R_reads' HO109.out).2.2 t110 p112 q112; cases e112; replace p112 := eq_true p112; replace q112 := eq_true q112) | ((with_reducible refine gate_dst (N := 6) rfl ?_); refine bx_ (N := 6) #[.slice none 0 0, .slice none 0 0] 26 ?_; intro gb113 hg w12 hbox hb; replace HO109 := Aside0.mk (Kd.R_below (uf1_ HO109) hb); replace HB := Aside0.mk (below_step (spec_l20Book.calls_q2) hb); have BK113 := Aside0.mk (hbox); have GW113 := Aside0.mk ((g84_ : w.heap.size ≤ gb113)); have GE113 := Aside0.mk ((Nat.le_trans HW0.out (g84_ : w.heap.size ≤ gb113) : w0.heap.size ≤ gb113)); replace HK := Aside0.mk (KeepBut.trans (spec_l20Book.calls_q1) (KeepBut.of_below hb g none) (.inl rfl)); have NB106_113 := Aside0.mk ((by rw [hg]; exact Nat.ne_of_lt (blk_lt (g := gb106) (o := .cells #[.slice none 0 0, .slice none 0 0] 26 (0, 0)) (uf0_ BK106)) : gb106 ≠ gb113)); have NB113_106 := Aside0.mk ((by rw [hg]; exact Nat.ne_of_gt (blk_lt (g := gb106) (o := .cells #[.slice none 0 0, .slice none 0 0] 26 (0, 0)) (uf0_ BK106)) : gb113 ≠ gb106)); replace BK106 := Aside0.mk (blk_below (g := gb106) (o := .cells #[.slice none 0 0, .slice none 0 0] 26 (0, 0)) (uf0_ BK106) hb); have NB0_113 := Aside0.mk ((by rw [hg]; exact Nat.ne_of_lt (IsS79.lt (show IsS79 w0 _ g s0_0 t111 from spec_l20Book.calls_q0)) : g ≠ gb113)); have NB113_0 := Aside0.mk ((by rw [hg]; exact Nat.ne_of_gt (IsS79.lt (show IsS79 w0 _ g s0_0 t111 from spec_l20Book.calls_q0)) : gb113 ≠ g)); replace HI0 := Aside0.mk (IsS79.below (spec_l20Book.calls_q0) hb); clear hb hbox hg; have hnb13 := NB113_106.out; have hnc13 := NB106_113.out; have hnb14 := NB113_0.out; have hnc14 := NB0_113.out; obtain ⟨hcz15_0, hcz15_1, hfz15_0, hfz15_1⟩ := blk2_ BK113) | ((with_reducible refine gate_callee (f := 87) rfl ?_); refine goesL_ (some 19) rfl rfl Try.func87 k_ rfl #[.pointer (some ⟨g, 0, none⟩), .int .i64 3] rfl (g2_) ?_; (with_reducible refine (spec_l20Rd_pick.calls k g s0_0 t111 3 t114 t115 w0 _ ?side1 ?side2 A6.out).mono ?_); (case side1 => exact spec_l20Book.calls_q0); (case side2 => exact spec_l20Book.calls_q2); rintro e w16 ⟨rfl, hi, hb, hk⟩; refine ⟨_, rfl, ?_⟩; replace BK106 := Aside0.mk (KeepBut.blk hk (g' := gb106) (o := .cells #[.slice none 0 0, .slice none 0 0] 26 (0, 0)) (by (with_reducible repeat (first | refine blk_drewN ?_ _ | refine blk_drew ?_ | refine blk_alloc ?_ _)); refine blk_far ?_ NB106_113.out _; (with_reducible repeat (first | refine blk_drewN ?_ _ | refine blk_drew ?_ | refine blk_alloc ?_ _)); refine blk_far ?_ NB106_113.out _; (with_reducible repeat (first | refine blk_drewN ?_ _ | refine blk_drew ?_ | refine blk_alloc ?_ _)); exact BK106.out) NB106_0.out (by simp)); replace HO109 := Aside0.mk (Kd.R_mono (Kd.R_keep (IsS79.apart (show IsS79 w0 _ g s0_0 t111 from spec_l20Book.calls_q0) (by (with_reducible repeat (first | apply Kd.R_alloc | apply Kd.R_drewN | apply Kd.R_drew)); exact (Kd.R_mono (Kd.R_far (p := ⟨gb113, 1, none⟩) (Kd.R_far (p := ⟨gb113, 0, none⟩) (Kd.R_types HO109.out BK113.out (by decide)) (fun _ hk => hk.2) (.slice none 0 0)) (fun _ hk => hk.2) (.slice none 0 0)) (fun _ h_ => h_.1))) (by decide)) hk (fun _ h => h.2)) (fun _ h => h.1)); replace BK113 := Aside0.mk (KeepBut.blk hk (g' := gb113) (o := .cells #[.slice none 0 0, .slice none 0 0] 26 (0, 0)) (by (with_reducible repeat (first | refine blk_drewN ?_ _ | refine blk_drew ?_ | refine blk_alloc ?_ _)); refine blk_put (cs := #[.slice none 0 0, .slice none 0 0]) ?_ 1 _ rfl; (with_reducible repeat (first | refine blk_drewN ?_ _ | refine blk_drew ?_ | refine blk_alloc ?_ _)); refine blk_put (cs := #[.slice none 0 0, .slice none 0 0]) ?_ 0 _ rfl; (with_reducible repeat (first | refine blk_drewN ?_ _ | refine blk_drew ?_ | refine blk_alloc ?_ _)); exact BK113.out) NB113_0.out (by simp)); replace HK := Aside0.mk (KeepBut.trans (spec_l20Book.calls_q1) hk (.inl rfl)); replace HB := Aside0.mk (hb); replace HI0 := Aside0.mk (hi); (try clear hb); (try clear hk hi)))
   go_loopg [8] k (fun kq v8 w' => ∃ (x8_1 : Int) (x1001_1 : Int) (x114000_1 : List Int) (x114001_1 : List (List Int)) (u114000 : Value) (u114001 : Value), v8 = .int .i64 x8_1 ∧ Aside0 (spec_l20Book.l0 kq a1 (rd y107 t110) t114 x8_1 s0_0 x1001_1 x114000_1 x114001_1 = some (r1, r2, r3)) ∧ Aside0 (kq ≤ k) ∧ Aside0 (Kd.R (Kd.int .i64) 3 w' w.heap.size (fun k_ => (w.heap.size ≤ k_)) u114000 x114000_1) ∧ Aside0 (Kd.S (Kd.slice 3 (Kd.int .i64)) 23 w' w.heap.size (fun k_ => (w.heap.size ≤ k_) ∧ some k_ ≠ (u114000 : Value).ownBlock) u114001 x114001_1) ∧ Aside0 (w'.heap[gb106]? = some (.cells #[(.slice none 0 0), (.slice none 0 0)] 26 (0, 0))) ∧ Aside0 (w'.heap[gb113]? = some (.cells #[u114000, u114001] 26 (0, 0))) ∧ Aside0 (IsS79 w0 w' g s0_0 x1001_1) ∧ Aside0 (KeepBut w w' g none) ∧ Aside0 (Below w0.heap.size w0 w'))
   case atStart => exact ⟨(0), (t115), (([] : List Int)), (([] : List (List Int))), (.slice none 0 0), (.slice none 0 0), (g3_), H', ⟨Nat.le_refl _⟩, ⟨g29_⟩, ⟨by first | exact Kd.S_nil _ _ _ _ _ | exact Kd.N_nil _ _ _ _ _ | exact Kd.V_nil _ _ _ _ _ | exact Kd.Q_nil _ _ _ _ _ | exact Kd.R_nil _ _ _ _ _⟩, ⟨uf0_ BK106⟩, ⟨uf0_ BK113⟩, ⟨spec_l20Book.calls_q0⟩, ⟨spec_l20Book.calls_q1⟩, ⟨spec_l20Book.calls_q2⟩⟩
   case round =>
    clear H'
    try clear c1
    try clear p1
    try clear q1
    try clear hx1
    try clear p2
    try clear c4
    try clear c4b0
    try clear c5
    try clear c5b0
    try clear c8
    try clear p11
    try clear q11
    try clear hx11
    try clear c13
    try clear c14
    try clear hcz15_0
    try clear hcz15_1
    try clear hfz15_0
    try clear hfz15_1
    try clear hx112_0
    try clear p112
    try clear q112
    obtain ⟨x8_1, x1001_1, x114000_1, x114001_1, u114000, u114001, rfl, HA, HK1, HO_114000, HO_114001, BK106, BK113, HI0, HK, HB⟩ := hrel
    cases gk with
    | zero => exact absurd HA.out (by simp [spec_l20Book.l0])
    | succ k1 =>
     have H := HA.out
     clear HA
     simp only [spec_l20Book.l0] at H
     by_cases c17 : x8_1 < (rd y107 t110)
     ·rw [if_pos c17] at H
      have c17b0 := decide_eq_true c17
      clear c17
      replace H := Option.bind_eq_some_iff.mp H
      obtain ⟨⟨t116, t117⟩, A180, H⟩ := H
      replace H : ((spec_l20Rd_pick.f k1 s0_0 t117 21).bind fun bt118 => ((some (([0, t116, bt118.1] : List Int) : List Int)).bind fun y120 => (if 0 ≤ t114 then (if t114 < (y120.length : Int) then (if x114000_1.length < 17592186044416 then (spec_l20Book.l1 k1 a1 (rd y107 t110) t114 x8_1 (([] : List Int)) 0 s0_0 bt118.2 (x114000_1 ++ [rd y120 t114]) x114001_1) else (none)) else (none)) else (none)))) = some (r1, r2, r3) := H
      have A18 := Aside0.mk A180
      clear A180
      replace H := Option.bind_eq_some_iff.mp H
      obtain ⟨⟨t118, t119⟩, A190, H⟩ := H
      replace H : ((some (([0, t116, t118] : List Int) : List Int)).bind fun y120 => (if 0 ≤ t114 then (if t114 < (y120.length : Int) then (if x114000_1.length < 17592186044416 then (spec_l20Book.l1 k1 a1 (rd y107 t110) t114 x8_1 (([] : List Int)) 0 s0_0 t119 (x114000_1 ++ [rd y120 t114]) x114001_1) else (none)) else (none)) else (none))) = some (r1, r2, r3) := H
      have A19 := Aside0.mk A190
      clear A190
      obtain ⟨y120, hy120⟩ : ∃ y_ : List Int, y_ = (([0, t116, t118] : List Int)) := ⟨_, rfl⟩
      replace H : (if 0 ≤ t114 then (if t114 < (y120.length : Int) then (if x114000_1.length < 17592186044416 then (spec_l20Book.l1 k1 a1 (rd y107 t110) t114 x8_1 (([] : List Int)) 0 s0_0 t119 (x114000_1 ++ [rd y120 t114]) x114001_1) else (none)) else (none)) else (none)) = some (r1, r2, r3) := by first | (rw [hy120]; with_reducible exact H) | (have H2_ := (Option.bind_some _ _).symm.trans H; rw [hy120]; with_reducible exact H2_) | (have H2_ := (Option.bind_some _ _).symm.trans H; with_reducible exact H2_) | with_reducible exact H | (rw [hy120]; exact H) | exact H
      have Ny120 := Aside0.mk hy120
      clear hy120
      by_cases c20 : 0 ≤ t114
      ·rw [if_pos c20] at H
       have c20b0 := decide_eq_true c20
       clear c20
       by_cases c21 : t114 < (y120.length : Int)
       ·rw [if_pos c21] at H
        have c21b0 := decide_eq_true c21
        clear c21
        by_cases c22 : x114000_1.length < 17592186044416
        ·rw [if_pos c22] at H
         have LMc22 := Aside0.mk c22
         clear c22
         obtain ⟨y124, hy124⟩ : ∃ y_ : List Int, y_ = (x114000_1 ++ [rd y120 t114]) := ⟨_, rfl⟩
         replace H : (spec_l20Book.l1 k1 a1 (rd y107 t110) t114 x8_1 (([] : List Int)) 0 s0_0 t119 y124 x114001_1) = some (r1, r2, r3) := by first | (rw [hy124]; with_reducible exact H) | (have H2_ := (Option.bind_some _ _).symm.trans H; rw [hy124]; with_reducible exact H2_) | (have H2_ := (Option.bind_some _ _).symm.trans H; with_reducible exact H2_) | with_reducible exact H | (rw [hy124]; exact H) | exact H
         have Ny124 := Aside0.mk hy124
         clear hy124
         obtain ⟨y127, hy127⟩ : ∃ y_ : List Int, y_ = (([] : List Int)) := ⟨_, rfl⟩
         replace H : (spec_l20Book.l1 k1 a1 (rd y107 t110) t114 x8_1 y127 0 s0_0 t119 y124 x114001_1) = some (r1, r2, r3) := by first | (rw [hy127]; with_reducible exact H) | (have H2_ := (Option.bind_some _ _).symm.trans H; rw [hy127]; with_reducible exact H2_) | (have H2_ := (Option.bind_some _ _).symm.trans H; with_reducible exact H2_) | with_reducible exact H | (rw [hy127]; exact H) | exact H
         have Ny127 := Aside0.mk hy127
         clear hy127
         have H' := Aside0.mk H
         clear H
         try go_wp2
         have pi123 : (0 ≤ (t114 : Int)) = True := eq_true (of_decide_eq_true (g1_))
         have qi123 : (t114 < (y120.length : Int)) = True := eq_true (of_decide_eq_true (g1_))
         replace HO_114000 := Aside0.mk (Kd.R_drew HO_114000.out)
         replace HO_114001 := Aside0.mk (Kd.S_drew HO_114001.out)
         replace BK106 := Aside0.mk (blk_drew BK106.out)
         replace BK113 := Aside0.mk (blk_drew BK113.out)
         replace HI0 := Aside0.mk (IsS79.drew HI0.out)
         replace HK := Aside0.mk (keep_drew HK.out)
         replace HB := Aside0.mk (below_drew1 HB.out)
         refine start_ (n := 14) (S := fun w' => w'.cell? ⟨gb113, 0, none⟩ = some (u114000) ∧ w'.cell? ⟨gb113, 1, none⟩ = some (u114001)) (ds := [13]) (tl_ 14 0) (g0_) rfl (g0_) ⟨(blk_cell BK113.out 0).trans rfl, (blk_cell BK113.out 1).trans rfl⟩ (fun hHeld => ?_); refine with_tabW spec_l20Book.tab7 spec_l20Book.bits7 (fun HT_ HW_ => ?_)
         generalize wr.drew = w23 at HO_114000 HO_114001 BK106 BK113 HI0 HK HB hHeld ⊢
         refine pw_ 0 25 (tl_ 14 1) rfl rfl ?_
         refine pw_ 2 27 (tl_ 14 5) rfl rfl ?_
         refine pw_ 4 29 (tl_ 14 21) rfl rfl ?_
         refine pw_ 7 32 (tl_ 14 149) rfl rfl ?_
         refine tk0_ 1 26 (tl_ 14 151) rfl rfl hHeld ?_
         refine one_ (i := 3) (N := some 28) (tl_ 14 159) rfl rfl (one_of HT_.out (g0_)) (by decide) (fun K hK => ?_)
         refine goes_ Try.func87 (g0_) rfl #[.pointer (some ⟨g, 0, none⟩), .int .i64 4] (by rfl) rfl rfl (g2_) ?_
         with_reducible refine (spec_l20Rd_pick.calls k1 g s0_0 x1001_1 4 t116 t117 w0 _ ?side1 ?side2 A18.out).mono ?_
         (case side1 => exact spec_l20Book.calls_q0)
         (case side2 => exact spec_l20Book.calls_q2)
         rintro e w24 ⟨rfl, hi, hb, hk⟩
         refine ⟨_, rfl, ?_⟩
         replace HO_114000 := Aside0.mk (Kd.R_mono (Kd.R_keep (IsS79.apart (show IsS79 w0 _ g s0_0 x1001_1 from spec_l20Book.calls_q0) (uf1_ HO_114000) (by decide)) hk (fun _ h => h.2)) (fun _ h => h.1))
         replace HO_114001 := Aside0.mk (Kd.S_mono (Kd.S_keep (IsS79.apartS (show IsS79 w0 _ g s0_0 x1001_1 from spec_l20Book.calls_q0) (uf2_ HO_114001) (by decide)) hk (fun _ h => h.2)) (fun _ h => h.1))
         replace BK106 := Aside0.mk (KeepBut.blk hk (g' := gb106) (o := .cells #[.slice none 0 0, .slice none 0 0] 26 (0, 0)) (uf0_ BK106) NB106_0.out (by simp))
         replace BK113 := Aside0.mk (KeepBut.blk hk (g' := gb113) (o := .cells #[u114000, u114001] 26 (0, 0)) (uf0_ BK113) NB113_0.out (by simp))
         replace HK := Aside0.mk (KeepBut.trans (spec_l20Book.calls_q1) hk (.inl rfl))
         replace HB := Aside0.mk (hb)
         replace HI0 := Aside0.mk (hi)
         (try clear hb)
         (try clear hk hi)
         refine hK.out _ _ ⟨(blk_cell BK113.out 0).trans rfl, (blk_cell BK113.out 1).trans rfl⟩ (fun hHeld => ?_)
         clear hK K
         refine nm_ ?_
         refine one_ (i := 5) (N := some 30) (tl_ 14 191) rfl rfl (one_of HT_.out (g0_)) (by decide) (fun K hK => ?_)
         refine goes_ Try.func87 (g0_) rfl #[.pointer (some ⟨g, 0, none⟩), .int .i64 21] (by rfl) rfl rfl (g2_) ?_
         with_reducible refine (spec_l20Rd_pick.calls k1 g s0_0 t117 21 t118 t119 w0 _ ?side1 ?side2 A19.out).mono ?_
         (case side1 => exact spec_l20Book.calls_q0)
         (case side2 => exact spec_l20Book.calls_q2)
         rintro e w25 ⟨rfl, hi, hb, hk⟩
         refine ⟨_, rfl, ?_⟩
         replace HO_114000 := Aside0.mk (Kd.R_mono (Kd.R_keep (IsS79.apart (show IsS79 w0 _ g s0_0 t117 from spec_l20Book.calls_q0) (uf1_ HO_114000) (by decide)) hk (fun _ h => h.2)) (fun _ h => h.1))
         replace HO_114001 := Aside0.mk (Kd.S_mono (Kd.S_keep (IsS79.apartS (show IsS79 w0 _ g s0_0 t117 from spec_l20Book.calls_q0) (uf2_ HO_114001) (by decide)) hk (fun _ h => h.2)) (fun _ h => h.1))
         replace BK106 := Aside0.mk (KeepBut.blk hk (g' := gb106) (o := .cells #[.slice none 0 0, .slice none 0 0] 26 (0, 0)) (uf0_ BK106) NB106_0.out (by simp))
         replace BK113 := Aside0.mk (KeepBut.blk hk (g' := gb113) (o := .cells #[u114000, u114001] 26 (0, 0)) (uf0_ BK113) NB113_0.out (by simp))
         replace HK := Aside0.mk (KeepBut.trans (spec_l20Book.calls_q1) hk (.inl rfl))
         replace HB := Aside0.mk (hb)
         replace HI0 := Aside0.mk (hi)
         (try clear hb)
         (try clear hk hi)
         refine hK.out _ _ ⟨(blk_cell BK113.out 0).trans rfl, (blk_cell BK113.out 1).trans rfl⟩ (fun hHeld => ?_)
         clear hK K
         refine nm_ ?_
         refine one_ (i := 6) (N := some 31) (tl_ 14 255) rfl rfl (one_of HT_.out (g0_)) (by decide) (fun K hK => ?_)
         refine Kd.R_lit_step (Kd.int .i64) _ 3 ?hg (N := 31) ?hd (xs := ([0, t116, t118] : List Int)) (inner := [.int .i64 0, .int .i64 t116, .int .i64 t118]) (ok := fun _ => True) (okp := fun _ => True) ?hr ?hp (fun _ hk => hk) trivial (Below.refl _ _) (Nat.le_refl _) (by simp) ?_; (case hd => rfl); (case hg => rfl); (case hr => first | (go_simp; done) | (go_simp; rfl)); (case hp => exact (Reps.one (show Kd.M (Kd.int .i64) _ _ _ 0 [.int .i64 0] from rfl) (Reps.one (show Kd.M (Kd.int .i64) _ _ _ t116 [.int .i64 t116] from rfl) (Reps.one (show Kd.M (Kd.int .i64) _ _ _ t118 [.int .i64 t118] from rfl) (Reps.none _ _)))))
         intro v121 w26 ho27 hb hg_ hnew_
         clear hg_ hnew_
         (first | rw [← Ny120.out] at ho27 | (simp only [Int.reduceToNat] at ho27; rw [← Ny120.out] at ho27))
         replace HO_114001 := Aside0.mk (Kd.S_elder' (uf2_ HO_114001) (Kd.R_base ho27) hb)
         have HO122 := Aside0.mk (Kd.R_lower (Kd.R_new' (Kd.R_newM (M := fun k_ => (w.heap.size ≤ k_)) ho27 (keep_size (w := w) (g := g) (row := none) (spec_l20Book.calls_q1)) (fun k_ h_ => h_)) (Kd.R_lt (uf1_ HO_114000))) (keep_size (w := w) (g := g) (row := none) (spec_l20Book.calls_q1)))
         replace HO_114000 := Aside0.mk (Kd.R_elder' (uf1_ HO_114000) (Kd.R_base ho27) hb)
         replace BK106 := Aside0.mk (blk_below (g := gb106) (o := .cells #[.slice none 0 0, .slice none 0 0] 26 (0, 0)) (uf0_ BK106) hb)
         replace BK113 := Aside0.mk (blk_below (g := gb113) (o := .cells #[u114000, u114001] 26 (0, 0)) (uf0_ BK113) hb)
         replace HK := Aside0.mk (KeepBut.trans (spec_l20Book.calls_q1) (KeepBut.of_below hb g none) (.inl rfl))
         replace HB := Aside0.mk (below_step (spec_l20Book.calls_q2) hb)
         replace HI0 := Aside0.mk (IsS79.below (spec_l20Book.calls_q0) hb)
         clear hb ho27
         obtain ⟨Ao28, co28, eo28⟩ := Kd.R_slice HO122.out
         subst eo28
         obtain ⟨ado28, fo28, _⟩ := Kd.at_int (Kd.R_reads' HO122.out).2.2 0 (by decide) (by rw [Ny120.out]; simp)
         cases fo28
         refine hK.out _ _ ⟨(blk_cell BK113.out 0).trans rfl, (blk_cell BK113.out 1).trans rfl⟩ (fun hHeld => ?_)
         clear hK K
         refine nm_ ?_
         refine pw_ 8 33 (tl_ 14 511) rfl rfl ?_
         refine one_ (i := 9) (N := some 34) (tl_ 14 1023) rfl rfl (one_of HT_.out (g0_)) (by decide) (fun K hK => ?_)
         (have p123 : 0 ≤ (t114 : Int) := of_decide_eq_true (g1_); have q123 : t114 < (y120.length : Int) := of_decide_eq_true (g1_); obtain ⟨ad123, e123, hx123_0⟩ := Kd.at_int (Kd.R_reads' HO122.out).2.2 t114 p123 q123; obtain rfl : ado28 = ad123 := (by injection e123))
         refine value_ (w1 := ?_) (v := ?_) (by rfl) rfl ?_ ?_
         rotate_left 2
         ·go_simp
          constructor
          ·rfl
          ·rfl
         clear hx123_0
         refine hK.out _ _ ⟨(blk_cell BK113.out 0).trans rfl, (blk_cell BK113.out 1).trans rfl⟩ (fun hHeld => ?_)
         clear hK K
         refine nm_ ?_
         refine one_ (i := 10) (N := some 35) (tl_ 14 2047) rfl rfl (one_of HT_.out (g0_)) (by decide) (fun K hK => ?_)
         refine value_ (w1 := ?_) (v := ?_) (by rfl) rfl ?_ ?_
         rotate_left 2
         ·go_simp
          constructor
          ·rfl
          ·rfl
         refine hK.out _ _ ⟨(blk_cell (blk_alloc BK113.out _) 0).trans rfl, (blk_cell (blk_alloc BK113.out _) 1).trans rfl⟩ (fun hHeld => ?_)
         clear hK K
         refine nm_ ?_
         refine one_ (i := 11) (N := some 36) (tl_ 14 4095) rfl rfl (one_of HT_.out (g0_)) (by decide) (fun K hK => ?_)
         refine Kd.R_append_step (Kd.int .i64) w.heap.size (by rfl) (.tmp 26) (.tmp 35) 23 3 (.int .i64 0) 8 rfl Try.underlying23 info3 rfl (by decide) (by omega) u114000 x114000_1 (rd y120 t114) [.int .i64 (rd y120 t114)] (fun k_ => (w.heap.size ≤ k_) ∧ some k_ ≠ (.slice (some ado28) y120.length co28 : Value).ownBlock) (fun _ => False) rfl rfl ?aP (fun _ hk => hk.elim) ?aF ?aO (Below.refl _ _) ?aS ?aL ?_
         (case aP => exact rfl)
         (case aF => exact (fun k_ hk => ⟨(Nat.le_trans (keep_size (w := w) (g := g) (row := none) (spec_l20Book.calls_q1)) hk), Kd.fresh' (Kd.R_lt (uf1_ HO122)) k_ hk⟩))
         (case aO => exact (uf1_ HO_114000))
         (case aS => exact (keep_size (w := w) (g := g) (row := none) (spec_l20Book.calls_q1)))
         (case aL => have := LMc22.out; omega)
         intro v125 w29 ho hb hg hat
         rw [← Ny124.out] at ho
         replace HO_114001 := Aside0.mk (Kd.S_after (ok := (fun k_ => (w.heap.size ≤ k_) ∧ some k_ ≠ (.slice (some ado28) y120.length co28 : Value).ownBlock)) (by (with_reducible repeat (first | apply Kd.S_alloc | apply Kd.S_drewN | apply Kd.S_drew)); exact Kd.S_mono HO_114001.out (fun _ hk => ⟨⟨hk.1.1, hk.2⟩, hk.1.2⟩)) hg hat)
         replace BK106 := Aside0.mk (blk_grown (g := gb106) (o := .cells #[.slice none 0 0, .slice none 0 0] 26 (0, 0)) (uf0_ BK106) hg (Kd.R_ne HO_114000.out BK106.out (by decide)))
         replace BK113 := Aside0.mk (blk_grown (g := gb113) (o := .cells #[u114000, u114001] 26 (0, 0)) (uf0_ BK113) hg (Kd.R_ne HO_114000.out BK113.out (by decide)))
         replace HO122 := Aside0.mk (Kd.R_after (ok := (fun k_ => (w.heap.size ≤ k_))) (by (with_reducible repeat (first | apply Kd.R_alloc | apply Kd.R_drewN | apply Kd.R_drew)); exact Kd.R_mono HO122.out (fun _ hk => ⟨hk.1.1, hk.2⟩)) hg hat)
         replace HB := Aside0.mk (below_weaken (spec_l20Book.calls_q2) HL.out hb)
         replace HI0 := Aside0.mk (IsS79.grown (spec_l20Book.calls_q0) hg (IsS79.own_ne HI0.out HO_114000.out (by decide)))
         replace HK := Aside0.mk (KeepBut.trans (spec_l20Book.calls_q1) (KeepBut.of_grown hg g) (Kd.R_base2 HO_114000.out))
         have HO126 := Aside0.mk (ho)
         clear HO_114000
         clear ho hb hg hat
         obtain ⟨Ao30, co30, eo30⟩ := Kd.R_slice HO126.out
         (first | subst eo30 | (injection eo30 with f1_ f2_ f3_; have f4_ := f1_.symm; have f5_ := f3_.symm; clear f1_ f2_ f3_; subst f4_; subst f5_))
         refine hK.out _ _ ⟨(blk_cell BK113.out 0).trans rfl, (blk_cell BK113.out 1).trans rfl⟩ (fun hHeld => ?_)
         clear hK K
         refine nm_ ?_
         refine pw_ 12 37 (tl_ 14 8191) rfl rfl ?_
         refine last_ (i := 13) (N := none) (tl_ 14 16383) rfl rfl (one_of HT_.out (g0_)) (by decide) (fun K hK => ?_)
         have hs31 : w29.cell? ⟨gb113, 0, none⟩ = some (u114000) := (blk_cell BK113.out 0).trans rfl
         have hfs31 := blk_frozen BK113.out 0
         have hns31_0 := NB106_113.out
         have hms31_0 := NB113_106.out
         refine skip_ (w1 := ?_) (by rfl) rfl ?_ ?_
         rotate_left
         ·go_simp
          rfl
         refine hK.out _ _ ?_
         clear hK K
         refine done_ (done_of HT_.out (g0_)) ?_
         try go_wp2_with (first | ((with_reducible refine gate_dst (N := 38) rfl ?_); refine Kd.R_lit (Kd.int .i64) _ 3 ?hg (N := 38) ?hd (xs := ([] : List Int)) (inner := []) (ok := fun _ => True) (okp := fun _ => True) ?hr ?hp (fun _ hk => hk) trivial (Below.refl _ _) (Nat.le_refl _) (by simp) ?_; (case hd => rfl); (case hg => rfl); (case hr => first | (go_simp; done) | (go_simp; rfl)); (case hp => exact (Reps.none _ _)); intro v128 w32 ho33 hb hg_ hnew_; clear hg_ hnew_; (first | rw [← Ny127.out] at ho33 | (simp only [Int.reduceToNat] at ho33; rw [← Ny127.out] at ho33)); replace HO_114001 := Aside0.mk (Kd.S_elder' (by (with_reducible repeat (first | apply Kd.S_alloc | apply Kd.S_drewN | apply Kd.S_drew)); exact (Kd.S_mono (Kd.S_far (p := ⟨gb113, 0, none⟩) (Kd.S_types HO_114001.out BK113.out (by decide)) (fun _ hk => hk.2) (.slice Ao30 y124.length co30)) (fun _ h_ => h_.1))) (Kd.R_base ho33) hb); have HO129 := Aside0.mk (Kd.R_lower (Kd.R_new' (Kd.R_new' (Kd.R_newM (M := fun k_ => (w.heap.size ≤ k_)) ho33 (keep_size (w := w) (g := g) (row := none) (spec_l20Book.calls_q1)) (fun k_ h_ => h_)) (Kd.R_lt (by (with_reducible repeat (first | apply Kd.R_alloc | apply Kd.R_drewN | apply Kd.R_drew)); exact (Kd.R_mono (Kd.R_far (p := ⟨gb113, 0, none⟩) (Kd.R_types HO122.out BK113.out (by decide)) (fun _ hk => hk.2) (.slice Ao30 y124.length co30)) (fun _ h_ => h_.1))))) (Kd.R_lt (by (with_reducible repeat (first | apply Kd.R_alloc | apply Kd.R_drewN | apply Kd.R_drew)); exact (Kd.R_mono (Kd.R_far (p := ⟨gb113, 0, none⟩) (Kd.R_types HO126.out BK113.out (by decide)) (fun _ hk => hk.2) (.slice Ao30 y124.length co30)) (fun _ h_ => h_.1))))) (keep_size (w := w) (g := g) (row := none) (spec_l20Book.calls_q1))); replace HO122 := Aside0.mk (Kd.R_elder' (by (with_reducible repeat (first | apply Kd.R_alloc | apply Kd.R_drewN | apply Kd.R_drew)); exact (Kd.R_mono (Kd.R_far (p := ⟨gb113, 0, none⟩) (Kd.R_types HO122.out BK113.out (by decide)) (fun _ hk => hk.2) (.slice Ao30 y124.length co30)) (fun _ h_ => h_.1))) (Kd.R_base ho33) hb); replace HO126 := Aside0.mk (Kd.R_elder' (by (with_reducible repeat (first | apply Kd.R_alloc | apply Kd.R_drewN | apply Kd.R_drew)); exact (Kd.R_mono (Kd.R_far (p := ⟨gb113, 0, none⟩) (Kd.R_types HO126.out BK113.out (by decide)) (fun _ hk => hk.2) (.slice Ao30 y124.length co30)) (fun _ h_ => h_.1))) (Kd.R_base ho33) hb); replace BK106 := Aside0.mk (blk_below (g := gb106) (o := .cells #[.slice none 0 0, .slice none 0 0] 26 (0, 0)) (by (with_reducible repeat (first | refine blk_drewN ?_ _ | refine blk_drew ?_ | refine blk_alloc ?_ _)); refine blk_far ?_ NB106_113.out _; (with_reducible repeat (first | refine blk_drewN ?_ _ | refine blk_drew ?_ | refine blk_alloc ?_ _)); exact BK106.out) hb); replace BK113 := Aside0.mk (blk_below (g := gb113) (o := .cells #[.slice Ao30 y124.length co30, u114001] 26 (0, 0)) (by (with_reducible repeat (first | refine blk_drewN ?_ _ | refine blk_drew ?_ | refine blk_alloc ?_ _)); refine blk_put (cs := #[u114000, u114001]) ?_ 0 _ rfl; (with_reducible repeat (first | refine blk_drewN ?_ _ | refine blk_drew ?_ | refine blk_alloc ?_ _)); exact BK113.out) hb); replace HK := Aside0.mk (KeepBut.trans (spec_l20Book.calls_q1) (KeepBut.of_below hb g none) (.inl rfl)); replace HB := Aside0.mk (below_step (spec_l20Book.calls_q2) hb); replace HI0 := Aside0.mk (IsS79.below (show IsS79 w0 (w29.setCell ⟨gb113, 0, none⟩ (.slice Ao30 y124.length co30)) g s0_0 t119 from spec_l20Book.calls_q0) hb); clear hb ho33))
         go_loopg [9, 10] k1 (fun kq v9 v10 w' => ∃ (x9_2 : List Int) (x10_2 : Int) (x1001_2 : Int), v10 = .int .i64 x10_2 ∧ Aside0 (spec_l20Book.l1 kq a1 (rd y107 t110) t114 x8_1 x9_2 x10_2 s0_0 x1001_2 y124 x114001_1 = some (r1, r2, r3)) ∧ Aside0 (kq ≤ k1) ∧ Aside0 (Kd.R (Kd.int .i64) 3 w' w.heap.size (fun k_ => (w.heap.size ≤ k_) ∧ some k_ ≠ ((.slice Ao30 y124.length co30) : Value).ownBlock) v9 x9_2) ∧ Aside0 (Kd.R (Kd.int .i64) 3 w' w.heap.size (fun k_ => (w.heap.size ≤ k_) ∧ some k_ ≠ (v9 : Value).ownBlock) (.slice Ao30 y124.length co30) y124) ∧ Aside0 (Kd.S (Kd.slice 3 (Kd.int .i64)) 23 w' w.heap.size (fun k_ => (w.heap.size ≤ k_) ∧ some k_ ≠ (v9 : Value).ownBlock ∧ some k_ ≠ ((.slice Ao30 y124.length co30) : Value).ownBlock) u114001 x114001_1) ∧ Aside0 (w'.heap[gb106]? = some (.cells #[(.slice none 0 0), (.slice none 0 0)] 26 (0, 0))) ∧ Aside0 (w'.heap[gb113]? = some (.cells #[(.slice Ao30 y124.length co30), u114001] 26 (0, 0))) ∧ Aside0 (IsS79 w0 w' g s0_0 x1001_2) ∧ Aside0 (KeepBut w w' g none) ∧ Aside0 (Below w0.heap.size w0 w'))
         case atStart => exact ⟨(y127), (0), (t119), (g3_), H', ⟨Nat.le_refl _⟩, ⟨by (with_reducible repeat (first | apply Kd.R_alloc | apply Kd.R_drewN | apply Kd.R_drew)); exact Kd.R_mono HO129.out (fun _ hk => ⟨hk.1.1.1, hk.2⟩)⟩, ⟨by (with_reducible repeat (first | apply Kd.R_alloc | apply Kd.R_drewN | apply Kd.R_drew)); exact Kd.R_mono HO126.out (fun _ hk => ⟨hk.1.1, hk.2⟩)⟩, ⟨by (with_reducible repeat (first | apply Kd.S_alloc | apply Kd.S_drewN | apply Kd.S_drew)); exact Kd.S_mono HO_114001.out (fun _ hk => ⟨hk.1.1.1, ⟨hk.2, hk.1.2⟩⟩)⟩, ⟨uf0_ BK106⟩, ⟨uf0_ BK113⟩, ⟨spec_l20Book.calls_q0⟩, ⟨spec_l20Book.calls_q1⟩, ⟨spec_l20Book.calls_q2⟩⟩
         case round =>
          clear H'
          try clear c1
          try clear p1
          try clear q1
          try clear hx1
          try clear qi1
          try clear c2
          try clear p2
          try clear c4
          try clear c4b0
          try clear c5
          try clear c5b0
          try clear c8
          try clear p11
          try clear q11
          try clear hx11
          try clear p12
          try clear q12
          try clear hx12
          try clear qi12
          try clear c13
          try clear c14
          try clear c17
          try clear c17b0
          try clear c20
          try clear c20b0
          try clear c21
          try clear c21b0
          try clear c22
          try clear hcz15_0
          try clear hcz15_1
          try clear hfz15_0
          try clear hfz15_1
          try clear hx112_0
          try clear hx123_0
          try clear p1
          try clear p11
          try clear p112
          try clear p123
          try clear p2
          try clear q1
          try clear q11
          try clear q112
          try clear q123
          obtain ⟨x9_2, x10_2, x1001_2, rfl, HA, HK2, HO_9, HO_114000, HO_114001, BK106, BK113, HI0, HK, HB⟩ := hrel
          cases gk with
          | zero => exact absurd HA.out (by simp [spec_l20Book.l1])
          | succ k2 =>
           have H := HA.out
           clear HA
           simp only [spec_l20Book.l1] at H
           by_cases c34 : x10_2 < (rd y107 t110)
           ·rw [if_pos c34] at H
            have c34b0 := decide_eq_true c34
            clear c34
            by_cases c35 : x8_1 = x10_2
            ·rw [if_pos c35] at H
             have c35b0 : (x8_1 == x10_2) = true := beq_iff_eq.mpr c35
             have c35b1 : (x8_1 != x10_2) = false := bne_eq_false_iff_eq.mpr c35
             clear c35
             by_cases c36 : x9_2.length < 17592186044416
             ·rw [if_pos c36] at H
              have LMc36 := Aside0.mk c36
              clear c36
              obtain ⟨y133, hy133⟩ : ∃ y_ : List Int, y_ = (x9_2 ++ [0]) := ⟨_, rfl⟩
              replace H : (spec_l20Book.l1 k2 a1 (rd y107 t110) t114 x8_1 y133 (wrap64 (x10_2 + 1)) s0_0 x1001_2 y124 x114001_1) = some (r1, r2, r3) := by first | (rw [hy133]; with_reducible exact H) | (have H2_ := (Option.bind_some _ _).symm.trans H; rw [hy133]; with_reducible exact H2_) | (have H2_ := (Option.bind_some _ _).symm.trans H; with_reducible exact H2_) | with_reducible exact H | (rw [hy133]; exact H) | exact H
              have Ny133 := Aside0.mk hy133
              clear hy133
              have H' := Aside0.mk H
              clear H
              go_wp2_with (first | ((with_reducible refine gate_builtin (b := .append) (xs := #[.tmp 54, .tmp 56]) rfl ?_); at_builtin; refine Kd.R_append (Kd.int .i64) w.heap.size rfl (.tmp 54) (.tmp 56) 23 3 (.int .i64 0) 8 rfl Try.underlying23 info3 rfl (by decide) (by omega) u9 x9_2 0 [.int .i64 0] (fun k_ => (w.heap.size ≤ k_) ∧ some k_ ≠ (.slice Ao30 y124.length co30 : Value).ownBlock) (fun _ => False) rfl rfl ?aP (fun _ hk => hk.elim) ?aF ?aO (Below.refl _ _) ?aS ?aL ?_; (case aP => exact rfl); (case aF => exact (fun k_ hk => ⟨(Nat.le_trans (keep_size (w := w) (g := g) (row := none) (spec_l20Book.calls_q1)) hk), Kd.fresh' (Kd.R_lt (uf1_ HO_114000)) k_ hk⟩)); (case aO => exact (uf1_ HO_9)); (case aS => exact (keep_size (w := w) (g := g) (row := none) (spec_l20Book.calls_q1))); (case aL => have := LMc36.out; omega); intro v134 w37 ho hb hg hat; rw [← Ny133.out] at ho; replace HO_114000 := Aside0.mk (Kd.R_after (ok := (fun k_ => (w.heap.size ≤ k_))) (uf1_ HO_114000) hg hat); replace HO_114001 := Aside0.mk (Kd.S_after (ok := (fun k_ => (w.heap.size ≤ k_) ∧ some k_ ≠ (.slice Ao30 y124.length co30 : Value).ownBlock)) (g124_) hg hat); replace BK106 := Aside0.mk (blk_grown (g := gb106) (o := .cells #[.slice none 0 0, .slice none 0 0] 26 (0, 0)) (uf0_ BK106) hg (Kd.R_ne HO_9.out BK106.out (by decide))); replace BK113 := Aside0.mk (blk_grown (g := gb113) (o := .cells #[.slice Ao30 y124.length co30, u114001] 26 (0, 0)) (uf0_ BK113) hg (Kd.R_ne HO_9.out BK113.out (by decide))); replace HB := Aside0.mk (below_weaken (spec_l20Book.calls_q2) HL.out hb); replace HI0 := Aside0.mk (IsS79.grown (spec_l20Book.calls_q0) hg (IsS79.own_ne HI0.out HO_9.out (by decide))); replace HK := Aside0.mk (KeepBut.trans (spec_l20Book.calls_q1) (KeepBut.of_grown hg g) (Kd.R_base2 HO_9.out)); have HO135 := Aside0.mk (ho); clear HO_9; clear ho hb hg hat))
              go_roundg k2
              case measure => have := HK1.out; have := HK2.out; omega
              case rel => exact ⟨(y133), (wrap64 (x10_2 + 1)), (x1001_2), (g3_), H', ⟨g34_⟩, ⟨uf1_ HO135⟩, ⟨uf1_ HO_114000⟩, ⟨g125_⟩, ⟨uf0_ BK106⟩, ⟨uf0_ BK113⟩, ⟨spec_l20Book.calls_q0⟩, ⟨spec_l20Book.calls_q1⟩, ⟨spec_l20Book.calls_q2⟩⟩
             ·rw [if_neg c36] at H
              exact absurd H (by simp)
            ·rw [if_neg c35] at H
             have c35b0 : (x8_1 == x10_2) = false := beq_eq_false_iff_ne.mpr c35
             have c35b1 : (x8_1 != x10_2) = true := bne_iff_ne.mpr c35
             replace H := Option.bind_eq_some_iff.mp H
             obtain ⟨⟨t136, t137⟩, A380, H⟩ := H
             replace H : (if t136 > 0 then ((spec_l20Rd_pick.f k2 s0_0 t137 10).bind fun bt138 => (if x9_2.length < 17592186044416 then (spec_l20Book.l1 k2 a1 (rd y107 t110) t114 x8_1 (x9_2 ++ [bt138.1]) (wrap64 (x10_2 + 1)) s0_0 bt138.2 y124 x114001_1) else (none))) else (if x9_2.length < 17592186044416 then (spec_l20Book.l1 k2 a1 (rd y107 t110) t114 x8_1 (x9_2 ++ [0]) (wrap64 (x10_2 + 1)) s0_0 t137 y124 x114001_1) else (none))) = some (r1, r2, r3) := H
             have A38 := Aside0.mk A380
             clear A380
             by_cases c39 : t136 > 0
             ·rw [if_pos c39] at H
              have c39b0 := decide_eq_true c39
              clear c39
              replace H := Option.bind_eq_some_iff.mp H
              obtain ⟨⟨t138, t139⟩, A400, H⟩ := H
              replace H : (if x9_2.length < 17592186044416 then (spec_l20Book.l1 k2 a1 (rd y107 t110) t114 x8_1 (x9_2 ++ [t138]) (wrap64 (x10_2 + 1)) s0_0 t139 y124 x114001_1) else (none)) = some (r1, r2, r3) := H
              have A40 := Aside0.mk A400
              clear A400
              by_cases c41 : x9_2.length < 17592186044416
              ·rw [if_pos c41] at H
               have LMc41 := Aside0.mk c41
               clear c41
               obtain ⟨y140, hy140⟩ : ∃ y_ : List Int, y_ = (x9_2 ++ [t138]) := ⟨_, rfl⟩
               replace H : (spec_l20Book.l1 k2 a1 (rd y107 t110) t114 x8_1 y140 (wrap64 (x10_2 + 1)) s0_0 t139 y124 x114001_1) = some (r1, r2, r3) := by first | (rw [hy140]; with_reducible exact H) | (have H2_ := (Option.bind_some _ _).symm.trans H; rw [hy140]; with_reducible exact H2_) | (have H2_ := (Option.bind_some _ _).symm.trans H; with_reducible exact H2_) | with_reducible exact H | (rw [hy140]; exact H) | exact H
               have Ny140 := Aside0.mk hy140
               clear hy140
               have H' := Aside0.mk H
               clear H
               go_wp2_with (first | (go_at_call 87; (with_reducible refine (spec_l20Rd_pick.calls k2 g s0_0 x1001_2 3 t136 t137 w0 _ ?side1 ?side2 A38.out).mono ?_); (case side1 => exact spec_l20Book.calls_q0); (case side2 => exact spec_l20Book.calls_q2); rintro e w42 ⟨rfl, hi, hb, hk⟩; replace HO_9 := Aside0.mk (Kd.R_mono (Kd.R_keep (IsS79.apart (show IsS79 w0 _ g s0_0 x1001_2 from spec_l20Book.calls_q0) (uf1_ HO_9) (by decide)) hk (fun _ h => h.2)) (fun _ h => h.1)); replace HO_114000 := Aside0.mk (Kd.R_mono (Kd.R_keep (IsS79.apart (show IsS79 w0 _ g s0_0 x1001_2 from spec_l20Book.calls_q0) (uf1_ HO_114000) (by decide)) hk (fun _ h => h.2)) (fun _ h => h.1)); replace HO_114001 := Aside0.mk (Kd.S_mono (Kd.S_keep (IsS79.apartS (show IsS79 w0 _ g s0_0 x1001_2 from spec_l20Book.calls_q0) (uf2_ HO_114001) (by decide)) hk (fun _ h => h.2)) (fun _ h => h.1)); replace BK106 := Aside0.mk (KeepBut.blk hk (g' := gb106) (o := .cells #[.slice none 0 0, .slice none 0 0] 26 (0, 0)) (uf0_ BK106) NB106_0.out (by simp)); replace BK113 := Aside0.mk (KeepBut.blk hk (g' := gb113) (o := .cells #[.slice Ao30 y124.length co30, u114001] 26 (0, 0)) (uf0_ BK113) NB113_0.out (by simp)); replace HK := Aside0.mk (KeepBut.trans (spec_l20Book.calls_q1) hk (.inl rfl)); replace HB := Aside0.mk (hb); replace HI0 := Aside0.mk (hi); (try clear hb); (try clear hk hi)) | ((with_reducible refine gate_callee (f := 87) rfl ?_); refine goesL_ (some 53) rfl rfl Try.func87 k_ rfl #[.pointer (some ⟨g, 0, none⟩), .int .i64 10] rfl (g2_) ?_; (with_reducible refine (spec_l20Rd_pick.calls k2 g s0_0 t137 10 t138 t139 w0 _ ?side1 ?side2 A40.out).mono ?_); (case side1 => exact spec_l20Book.calls_q0); (case side2 => exact spec_l20Book.calls_q2); rintro e w43 ⟨rfl, hi, hb, hk⟩; refine ⟨_, rfl, ?_⟩; replace HO_9 := Aside0.mk (Kd.R_mono (Kd.R_keep (IsS79.apart (show IsS79 w0 _ g s0_0 t137 from spec_l20Book.calls_q0) (uf1_ HO_9) (by decide)) hk (fun _ h => h.2)) (fun _ h => h.1)); replace HO_114000 := Aside0.mk (Kd.R_mono (Kd.R_keep (IsS79.apart (show IsS79 w0 _ g s0_0 t137 from spec_l20Book.calls_q0) (uf1_ HO_114000) (by decide)) hk (fun _ h => h.2)) (fun _ h => h.1)); replace HO_114001 := Aside0.mk (Kd.S_mono (Kd.S_keep (IsS79.apartS (show IsS79 w0 _ g s0_0 t137 from spec_l20Book.calls_q0) (uf2_ HO_114001) (by decide)) hk (fun _ h => h.2)) (fun _ h => h.1)); replace BK106 := Aside0.mk (KeepBut.blk hk (g' := gb106) (o := .cells #[.slice none 0 0, .slice none 0 0] 26 (0, 0)) (uf0_ BK106) NB106_0.out (by simp)); replace BK113 := Aside0.mk (KeepBut.blk hk (g' := gb113) (o := .cells #[.slice Ao30 y124.length co30, u114001] 26 (0, 0)) (uf0_ BK113) NB113_0.out (by simp)); replace HK := Aside0.mk (KeepBut.trans (spec_l20Book.calls_q1) hk (.inl rfl)); replace HB := Aside0.mk (hb); replace HI0 := Aside0.mk (hi); (try clear hb); (try clear hk hi)) | ((with_reducible refine gate_builtin (b := .append) (xs := #[.tmp 54, .tmp 56]) rfl ?_); at_builtin; refine Kd.R_append (Kd.int .i64) w.heap.size rfl (.tmp 54) (.tmp 56) 23 3 (.int .i64 0) 8 rfl Try.underlying23 info3 rfl (by decide) (by omega) u9 x9_2 t138 [.int .i64 t138] (fun k_ => (w.heap.size ≤ k_) ∧ some k_ ≠ (.slice Ao30 y124.length co30 : Value).ownBlock) (fun _ => False) rfl rfl ?aP (fun _ hk => hk.elim) ?aF ?aO (Below.refl _ _) ?aS ?aL ?_; (case aP => exact rfl); (case aF => exact (fun k_ hk => ⟨(Nat.le_trans (keep_size (w := w) (g := g) (row := none) (spec_l20Book.calls_q1)) hk), Kd.fresh' (Kd.R_lt (uf1_ HO_114000)) k_ hk⟩)); (case aO => exact (uf1_ HO_9)); (case aS => exact (keep_size (w := w) (g := g) (row := none) (spec_l20Book.calls_q1))); (case aL => have := LMc41.out; omega); intro v141 w44 ho hb hg hat; rw [← Ny140.out] at ho; replace HO_114000 := Aside0.mk (Kd.R_after (ok := (fun k_ => (w.heap.size ≤ k_))) (uf1_ HO_114000) hg hat); replace HO_114001 := Aside0.mk (Kd.S_after (ok := (fun k_ => (w.heap.size ≤ k_) ∧ some k_ ≠ (.slice Ao30 y124.length co30 : Value).ownBlock)) (g124_) hg hat); replace BK106 := Aside0.mk (blk_grown (g := gb106) (o := .cells #[.slice none 0 0, .slice none 0 0] 26 (0, 0)) (uf0_ BK106) hg (Kd.R_ne HO_9.out BK106.out (by decide))); replace BK113 := Aside0.mk (blk_grown (g := gb113) (o := .cells #[.slice Ao30 y124.length co30, u114001] 26 (0, 0)) (uf0_ BK113) hg (Kd.R_ne HO_9.out BK113.out (by decide))); replace HB := Aside0.mk (below_weaken (spec_l20Book.calls_q2) HL.out hb); replace HI0 := Aside0.mk (IsS79.grown (spec_l20Book.calls_q0) hg (IsS79.own_ne HI0.out HO_9.out (by decide))); replace HK := Aside0.mk (KeepBut.trans (spec_l20Book.calls_q1) (KeepBut.of_grown hg g) (Kd.R_base2 HO_9.out)); have HO142 := Aside0.mk (ho); clear HO_9; clear ho hb hg hat))
               go_roundg k2
               case measure => have := HK1.out; have := HK2.out; omega
               case rel => exact ⟨(y140), (wrap64 (x10_2 + 1)), (t139), (g3_), H', ⟨g34_⟩, ⟨uf1_ HO142⟩, ⟨uf1_ HO_114000⟩, ⟨g125_⟩, ⟨uf0_ BK106⟩, ⟨uf0_ BK113⟩, ⟨spec_l20Book.calls_q0⟩, ⟨spec_l20Book.calls_q1⟩, ⟨spec_l20Book.calls_q2⟩⟩
              ·rw [if_neg c41] at H
               exact absurd H (by simp)
             ·rw [if_neg c39] at H
              have c39b0 := decide_eq_false c39
              clear c39
              by_cases c45 : x9_2.length < 17592186044416
              ·rw [if_pos c45] at H
               have LMc45 := Aside0.mk c45
               clear c45
               obtain ⟨y143, hy143⟩ : ∃ y_ : List Int, y_ = (x9_2 ++ [0]) := ⟨_, rfl⟩
               replace H : (spec_l20Book.l1 k2 a1 (rd y107 t110) t114 x8_1 y143 (wrap64 (x10_2 + 1)) s0_0 t137 y124 x114001_1) = some (r1, r2, r3) := by first | (rw [hy143]; with_reducible exact H) | (have H2_ := (Option.bind_some _ _).symm.trans H; rw [hy143]; with_reducible exact H2_) | (have H2_ := (Option.bind_some _ _).symm.trans H; with_reducible exact H2_) | with_reducible exact H | (rw [hy143]; exact H) | exact H
               have Ny143 := Aside0.mk hy143
               clear hy143
               have H' := Aside0.mk H
               clear H
               go_wp2_with (first | (go_at_call 87; (with_reducible refine (spec_l20Rd_pick.calls k2 g s0_0 x1001_2 3 t136 t137 w0 _ ?side1 ?side2 A38.out).mono ?_); (case side1 => exact spec_l20Book.calls_q0); (case side2 => exact spec_l20Book.calls_q2); rintro e w46 ⟨rfl, hi, hb, hk⟩; replace HO_9 := Aside0.mk (Kd.R_mono (Kd.R_keep (IsS79.apart (show IsS79 w0 _ g s0_0 x1001_2 from spec_l20Book.calls_q0) (uf1_ HO_9) (by decide)) hk (fun _ h => h.2)) (fun _ h => h.1)); replace HO_114000 := Aside0.mk (Kd.R_mono (Kd.R_keep (IsS79.apart (show IsS79 w0 _ g s0_0 x1001_2 from spec_l20Book.calls_q0) (uf1_ HO_114000) (by decide)) hk (fun _ h => h.2)) (fun _ h => h.1)); replace HO_114001 := Aside0.mk (Kd.S_mono (Kd.S_keep (IsS79.apartS (show IsS79 w0 _ g s0_0 x1001_2 from spec_l20Book.calls_q0) (uf2_ HO_114001) (by decide)) hk (fun _ h => h.2)) (fun _ h => h.1)); replace BK106 := Aside0.mk (KeepBut.blk hk (g' := gb106) (o := .cells #[.slice none 0 0, .slice none 0 0] 26 (0, 0)) (uf0_ BK106) NB106_0.out (by simp)); replace BK113 := Aside0.mk (KeepBut.blk hk (g' := gb113) (o := .cells #[.slice Ao30 y124.length co30, u114001] 26 (0, 0)) (uf0_ BK113) NB113_0.out (by simp)); replace HK := Aside0.mk (KeepBut.trans (spec_l20Book.calls_q1) hk (.inl rfl)); replace HB := Aside0.mk (hb); replace HI0 := Aside0.mk (hi); (try clear hb); (try clear hk hi)) | ((with_reducible refine gate_builtin (b := .append) (xs := #[.tmp 54, .tmp 56]) rfl ?_); at_builtin; refine Kd.R_append (Kd.int .i64) w.heap.size rfl (.tmp 54) (.tmp 56) 23 3 (.int .i64 0) 8 rfl Try.underlying23 info3 rfl (by decide) (by omega) u9 x9_2 0 [.int .i64 0] (fun k_ => (w.heap.size ≤ k_) ∧ some k_ ≠ (.slice Ao30 y124.length co30 : Value).ownBlock) (fun _ => False) rfl rfl ?aP (fun _ hk => hk.elim) ?aF ?aO (Below.refl _ _) ?aS ?aL ?_; (case aP => exact rfl); (case aF => exact (fun k_ hk => ⟨(Nat.le_trans (keep_size (w := w) (g := g) (row := none) (spec_l20Book.calls_q1)) hk), Kd.fresh' (Kd.R_lt (uf1_ HO_114000)) k_ hk⟩)); (case aO => exact (uf1_ HO_9)); (case aS => exact (keep_size (w := w) (g := g) (row := none) (spec_l20Book.calls_q1))); (case aL => have := LMc45.out; omega); intro v144 w47 ho hb hg hat; rw [← Ny143.out] at ho; replace HO_114000 := Aside0.mk (Kd.R_after (ok := (fun k_ => (w.heap.size ≤ k_))) (uf1_ HO_114000) hg hat); replace HO_114001 := Aside0.mk (Kd.S_after (ok := (fun k_ => (w.heap.size ≤ k_) ∧ some k_ ≠ (.slice Ao30 y124.length co30 : Value).ownBlock)) (g124_) hg hat); replace BK106 := Aside0.mk (blk_grown (g := gb106) (o := .cells #[.slice none 0 0, .slice none 0 0] 26 (0, 0)) (uf0_ BK106) hg (Kd.R_ne HO_9.out BK106.out (by decide))); replace BK113 := Aside0.mk (blk_grown (g := gb113) (o := .cells #[.slice Ao30 y124.length co30, u114001] 26 (0, 0)) (uf0_ BK113) hg (Kd.R_ne HO_9.out BK113.out (by decide))); replace HB := Aside0.mk (below_weaken (spec_l20Book.calls_q2) HL.out hb); replace HI0 := Aside0.mk (IsS79.grown (spec_l20Book.calls_q0) hg (IsS79.own_ne HI0.out HO_9.out (by decide))); replace HK := Aside0.mk (KeepBut.trans (spec_l20Book.calls_q1) (KeepBut.of_grown hg g) (Kd.R_base2 HO_9.out)); have HO145 := Aside0.mk (ho); clear HO_9; clear ho hb hg hat))
               go_roundg k2
               case measure => have := HK1.out; have := HK2.out; omega
               case rel => exact ⟨(y143), (wrap64 (x10_2 + 1)), (t137), (g3_), H', ⟨g34_⟩, ⟨uf1_ HO145⟩, ⟨uf1_ HO_114000⟩, ⟨g125_⟩, ⟨uf0_ BK106⟩, ⟨uf0_ BK113⟩, ⟨spec_l20Book.calls_q0⟩, ⟨spec_l20Book.calls_q1⟩, ⟨spec_l20Book.calls_q2⟩⟩
              ·rw [if_neg c45] at H
               exact absurd H (by simp)
           ·rw [if_neg c34] at H
            have c34b0 := decide_eq_false c34
            clear c34
            by_cases c48 : x114001_1.length < 5864062014805
            ·rw [if_pos c48] at H
             have LMc48 := Aside0.mk c48
             clear c48
             obtain ⟨y130, hy130⟩ : ∃ y_ : List (List Int), y_ = (x114001_1 ++ [x9_2]) := ⟨_, rfl⟩
             replace H : (spec_l20Book.l0 k2 a1 (rd y107 t110) t114 (wrap64 (x8_1 + 1)) s0_0 x1001_2 y124 y130) = some (r1, r2, r3) := by first | (rw [hy130]; with_reducible exact H) | (have H2_ := (Option.bind_some _ _).symm.trans H; rw [hy130]; with_reducible exact H2_) | (have H2_ := (Option.bind_some _ _).symm.trans H; with_reducible exact H2_) | with_reducible exact H | (rw [hy130]; exact H) | exact H
             have Ny130 := Aside0.mk hy130
             clear hy130
             have H' := Aside0.mk H
             clear H
             have hnb49 := NB113_106.out
             have hnc49 := NB106_113.out
             have hnb50 := NB113_0.out
             have hnc50 := NB0_113.out
             obtain ⟨hcz51_0, hcz51_1, hfz51_0, hfz51_1⟩ := blk2_ BK113
             obtain ⟨Ao53, co53, eo53⟩ := Kd.R_slice HO_9.out
             subst eo53
             go_wp2_with (first | ((with_reducible refine gate_builtin (b := .append) (xs := #[.tmp 59, .tmp 61]) rfl ?_); at_builtin; refine Kd.S_append (Kd.slice 3 (Kd.int .i64)) w.heap.size rfl (.tmp 59) (.tmp 61) 24 23 (.slice none 0 0) 24 rfl Try.underlying24 info23 rfl (by decide) (by omega) u114001 x114001_1 x9_2 [.slice Ao53 x9_2.length co53] (fun k_ => (w.heap.size ≤ k_) ∧ some k_ ≠ (.slice Ao30 y124.length co30 : Value).ownBlock) (fun k_ => some k_ = (.slice Ao53 x9_2.length co53 : Value).ownBlock) rfl rfl ?aP (fun k_ hk_ => ((Kd.R_mono (ok' := fun k_ => ((fun k_ => (w.heap.size ≤ k_) ∧ some k_ ≠ (.slice Ao30 y124.length co30 : Value).ownBlock)) k_ ∧ some k_ ≠ (u114001 : Value).ownBlock) (Kd.R_apart' (HO_9.out) (Kd.S_typed HO_114001.out) (by decide)) (fun k_ hk => ⟨⟨hk.1.1, hk.1.2⟩, hk.2⟩))).1 k_ hk_.symm) ?aF ?aO (Below.refl _ _) ?aS ?aL ?_; (case aP => exact Kd.M_row (Kd.R_mono (Kd.R_tight rfl (Kd.R_mono (ok' := fun k_ => ((fun k_ => (w.heap.size ≤ k_) ∧ some k_ ≠ (.slice Ao30 y124.length co30 : Value).ownBlock)) k_ ∧ some k_ ≠ (u114001 : Value).ownBlock) (Kd.R_apart' (HO_9.out) (Kd.S_typed HO_114001.out) (by decide)) (fun k_ hk => ⟨⟨hk.1.1, hk.1.2⟩, hk.2⟩))) (fun _ h_ => h_))); (case aF => exact (fun k_ hk => ⟨(Nat.le_trans (keep_size (w := w) (g := g) (row := none) (spec_l20Book.calls_q1)) hk), Kd.fresh' (Kd.R_lt (uf1_ HO_114000)) k_ hk⟩)); (case aO => exact (by (with_reducible repeat (first | apply Kd.S_alloc | apply Kd.S_drewN | apply Kd.S_drew)); exact Kd.S_mono HO_114001.out (fun k_ hk => ⟨⟨hk.1, hk.2.2⟩, fun e_ => hk.2.1 e_⟩))); (case aS => exact (keep_size (w := w) (g := g) (row := none) (spec_l20Book.calls_q1))); (case aL => have := LMc48.out; omega); intro v131 w52 ho hb hg hat; rw [← Ny130.out] at ho; replace HO_114000 := Aside0.mk (Kd.R_over' (uf1_ HO_114000) (Kd.S_typed (uf2_ HO_114001)) (by decide) hg); replace BK106 := Aside0.mk (blk_grown (g := gb106) (o := .cells #[.slice none 0 0, .slice none 0 0] 26 (0, 0)) (uf0_ BK106) hg (Kd.S_ne HO_114001.out BK106.out (by decide))); replace BK113 := Aside0.mk (blk_grown (g := gb113) (o := .cells #[.slice Ao30 y124.length co30, u114001] 26 (0, 0)) (uf0_ BK113) hg (Kd.S_ne HO_114001.out BK113.out (by decide))); replace HB := Aside0.mk (below_weaken (spec_l20Book.calls_q2) HL.out hb); replace HI0 := Aside0.mk (IsS79.grown (spec_l20Book.calls_q0) hg (IsS79.own_neS HI0.out HO_114001.out (by decide))); replace HK := Aside0.mk (KeepBut.trans (spec_l20Book.calls_q1) (KeepBut.of_grown hg g) (Kd.S_base2 HO_114001.out)); have HO132 := Aside0.mk (ho); clear HO_114001 HO_9; clear ho hb hg hat; obtain ⟨Ao54, co54, eo54⟩ := Kd.S_slice HO132.out; subst eo54; obtain ⟨hcz55_0, hcz55_1, hfz55_0, hfz55_1⟩ := blk2_ BK113))
             go_roundg k2
             case measure => have := HK1.out; have := HK2.out; omega
             case rel => exact ⟨(wrap64 (x8_1 + 1)), (x1001_2), (y124), (y130), (.slice Ao30 y124.length co30), (.slice Ao54 y130.length co54), (g3_), H', ⟨g34_⟩, ⟨by (with_reducible repeat (first | apply Kd.R_alloc | apply Kd.R_drewN | apply Kd.R_drew)); exact Kd.R_mono (Kd.R_far (p := ⟨gb113, 1, none⟩) (Kd.R_types HO_114000.out BK113.out (by decide)) (fun _ hk => hk.2) (.slice Ao54 y130.length co54)) (fun _ hk => hk.1.1)⟩, ⟨by (with_reducible repeat (first | apply Kd.S_alloc | apply Kd.S_drewN | apply Kd.S_drew)); exact Kd.S_mono (Kd.S_far (p := ⟨gb113, 1, none⟩) (Kd.S_types HO132.out BK113.out (by decide)) (fun _ hk => hk.2) (.slice Ao54 y130.length co54)) (fun _ hk => ⟨hk.1.1, hk.1.2⟩)⟩, ⟨by (with_reducible repeat (first | refine blk_drewN ?_ _ | refine blk_drew ?_ | refine blk_alloc ?_ _)); refine blk_far ?_ NB106_113.out _; (with_reducible repeat (first | refine blk_drewN ?_ _ | refine blk_drew ?_ | refine blk_alloc ?_ _)); exact BK106.out⟩, ⟨by (with_reducible repeat (first | refine blk_drewN ?_ _ | refine blk_drew ?_ | refine blk_alloc ?_ _)); refine blk_put (cs := #[.slice Ao30 y124.length co30, u114001]) ?_ 1 _ rfl; (with_reducible repeat (first | refine blk_drewN ?_ _ | refine blk_drew ?_ | refine blk_alloc ?_ _)); exact BK113.out⟩, ⟨spec_l20Book.calls_q0⟩, ⟨spec_l20Book.calls_q1⟩, ⟨spec_l20Book.calls_q2⟩⟩
            ·rw [if_neg c48] at H
             exact absurd H (by simp)
        ·rw [if_neg c22] at H
         exact absurd H (by simp)
       ·rw [if_neg c21] at H
        exact absurd H (by simp)
      ·rw [if_neg c20] at H
       exact absurd H (by simp)
     ·rw [if_neg c17] at H
      have c17b0 := decide_eq_false c17
      clear c17
      replace H := Option.bind_eq_some_iff.mp H
      obtain ⟨⟨t146, t147⟩, A560, H⟩ := H
      replace H : (if t146 = true then ((spec_l20Rd_pick.f k1 s0_0 t147 4).bind fun bt148 => (if bt148.1 = 0 then (some (([] : List Int), ([] : List (List Int)), bt148.2)) else (if bt148.1 = 1 then (if 0 < (x114000_1.length : Int) then (some ((x114000_1.set (0 : Int).toNat (-1)), x114001_1, bt148.2)) else (none)) else (if bt148.1 = 2 then (if 0 < (x114001_1.length : Int) then (if 0 < ((rd_L2 x114001_1 0).length : Int) then (some (x114000_1, (x114001_1.set (0 : Int).toNat ((rd_L2 x114001_1 0).set (0 : Int).toNat 1)), bt148.2)) else (none)) else (none)) else (if 0 ≤ (wrap64 ((rd y107 t110) - 1)) then (if (wrap64 ((rd y107 t110) - 1)) < (x114001_1.length : Int) then (if 1 ≤ ((rd_L2 x114001_1 (wrap64 ((rd y107 t110) - 1))).length : Int) then (some (x114000_1, (x114001_1.set ((wrap64 ((rd y107 t110) - 1)) : Int).toNat ((rd_L2 x114001_1 (wrap64 ((rd y107 t110) - 1))).drop 1)), bt148.2)) else (none)) else (none)) else (none)))))) else (some (x114000_1, x114001_1, t147))) = some (r1, r2, r3) := H
      have A56 := Aside0.mk A560
      clear A560
      by_cases c57 : t146 = true
      ·subst c57
       replace H := ifp_ H
       replace H := Option.bind_eq_some_iff.mp H
       obtain ⟨⟨t148, t149⟩, A580, H⟩ := H
       replace H : (if t148 = 0 then (some (([] : List Int), ([] : List (List Int)), t149)) else (if t148 = 1 then (if 0 < (x114000_1.length : Int) then (some ((x114000_1.set (0 : Int).toNat (-1)), x114001_1, t149)) else (none)) else (if t148 = 2 then (if 0 < (x114001_1.length : Int) then (if 0 < ((rd_L2 x114001_1 0).length : Int) then (some (x114000_1, (x114001_1.set (0 : Int).toNat ((rd_L2 x114001_1 0).set (0 : Int).toNat 1)), t149)) else (none)) else (none)) else (if 0 ≤ (wrap64 ((rd y107 t110) - 1)) then (if (wrap64 ((rd y107 t110) - 1)) < (x114001_1.length : Int) then (if 1 ≤ ((rd_L2 x114001_1 (wrap64 ((rd y107 t110) - 1))).length : Int) then (some (x114000_1, (x114001_1.set ((wrap64 ((rd y107 t110) - 1)) : Int).toNat ((rd_L2 x114001_1 (wrap64 ((rd y107 t110) - 1))).drop 1)), t149)) else (none)) else (none)) else (none))))) = some (r1, r2, r3) := H
       have A58 := Aside0.mk A580
       clear A580
       by_cases c59 : t148 = 0
       ·rw [if_pos c59] at H
        have c59b0 : (t148 == 0) = true := beq_iff_eq.mpr c59
        have c59b1 : (t148 != 0) = false := bne_eq_false_iff_eq.mpr c59
        clear c59
        simp only [Option.some.injEq, Prod.mk.injEq] at H
        obtain ⟨rfl, rfl, rfl⟩ := H
        go_wp2_with (first | ((with_reducible refine gate_callee (f := 88) rfl ?_); refine goesL_ (some 66) rfl rfl Try.func88 k_ rfl #[.pointer (some ⟨g, 0, none⟩), .int .i64 a1] rfl (g2_) ?_; (with_reducible refine (spec_l20Rd_odd.calls k1 g s0_0 x1001_1 a1 true t147 w0 _ ?side1 ?side2 A56.out).mono ?_); (case side1 => exact spec_l20Book.calls_q0); (case side2 => exact spec_l20Book.calls_q2); rintro e w60 ⟨rfl, hi, hb, hk⟩; refine ⟨_, rfl, ?_⟩; replace HO_114000 := Aside0.mk (Kd.R_mono (Kd.R_keep (IsS79.apart (show IsS79 w0 _ g s0_0 x1001_1 from spec_l20Book.calls_q0) (uf1_ HO_114000) (by decide)) hk (fun _ h => h.2)) (fun _ h => h.1)); replace HO_114001 := Aside0.mk (Kd.S_mono (Kd.S_keep (IsS79.apartS (show IsS79 w0 _ g s0_0 x1001_1 from spec_l20Book.calls_q0) (uf2_ HO_114001) (by decide)) hk (fun _ h => h.2)) (fun _ h => h.1)); replace BK106 := Aside0.mk (KeepBut.blk hk (g' := gb106) (o := .cells #[.slice none 0 0, .slice none 0 0] 26 (0, 0)) (uf0_ BK106) NB106_0.out (by simp)); replace BK113 := Aside0.mk (KeepBut.blk hk (g' := gb113) (o := .cells #[u114000, u114001] 26 (0, 0)) (uf0_ BK113) NB113_0.out (by simp)); replace HK := Aside0.mk (KeepBut.trans (spec_l20Book.calls_q1) hk (.inl rfl)); replace HB := Aside0.mk (hb); replace HI0 := Aside0.mk (hi); (try clear hb); (try clear hk hi)) | ((with_reducible refine gate_callee (f := 87) rfl ?_); refine goesL_ (some 68) rfl rfl Try.func87 k_ rfl #[.pointer (some ⟨g, 0, none⟩), .int .i64 4] rfl (g2_) ?_; (with_reducible refine (spec_l20Rd_pick.calls k1 g s0_0 t147 4 t148 t149 w0 _ ?side1 ?side2 A58.out).mono ?_); (case side1 => exact spec_l20Book.calls_q0); (case side2 => exact spec_l20Book.calls_q2); rintro e w61 ⟨rfl, hi, hb, hk⟩; refine ⟨_, rfl, ?_⟩; replace HO_114000 := Aside0.mk (Kd.R_mono (Kd.R_keep (IsS79.apart (show IsS79 w0 _ g s0_0 t147 from spec_l20Book.calls_q0) (uf1_ HO_114000) (by decide)) hk (fun _ h => h.2)) (fun _ h => h.1)); replace HO_114001 := Aside0.mk (Kd.S_mono (Kd.S_keep (IsS79.apartS (show IsS79 w0 _ g s0_0 t147 from spec_l20Book.calls_q0) (uf2_ HO_114001) (by decide)) hk (fun _ h => h.2)) (fun _ h => h.1)); replace BK106 := Aside0.mk (KeepBut.blk hk (g' := gb106) (o := .cells #[.slice none 0 0, .slice none 0 0] 26 (0, 0)) (uf0_ BK106) NB106_0.out (by simp)); replace BK113 := Aside0.mk (KeepBut.blk hk (g' := gb113) (o := .cells #[u114000, u114001] 26 (0, 0)) (uf0_ BK113) NB113_0.out (by simp)); replace HK := Aside0.mk (KeepBut.trans (spec_l20Book.calls_q1) hk (.inl rfl)); replace HB := Aside0.mk (hb); replace HI0 := Aside0.mk (hi); (try clear hb); (try clear hk hi); have hnb62 := NB106_113.out; have hnc62 := NB113_106.out; have hnb63 := NB106_0.out; have hnc63 := NB0_106.out; obtain ⟨hcz64_0, hcz64_1, hfz64_0, hfz64_1⟩ := blk2_ BK106))
        refine bodyPost_ret (results_cell_row rfl _ _ gb106 26 #[.slice none 0 0, .slice none 0 0] (0, 0) _ rfl (by (with_reducible repeat (first | refine blk_drewN ?_ _ | refine blk_drew ?_ | refine blk_alloc ?_ _)); refine blk_put (cs := #[.slice none 0 0, .slice none 0 0]) ?_ 1 _ rfl; (with_reducible repeat (first | refine blk_drewN ?_ _ | refine blk_drew ?_ | refine blk_alloc ?_ _)); refine blk_put (cs := #[.slice none 0 0, .slice none 0 0]) ?_ 0 _ rfl; (with_reducible repeat (first | refine blk_drewN ?_ _ | refine blk_drew ?_ | refine blk_alloc ?_ _)); exact BK106.out) Try.underlying26 rfl (g0_)) rfl ?_
        exact ⟨_, _, g4_, g29_, Kd.V_nil _ _ _ _ _, spec_l20Book.calls_q0, spec_l20Book.calls_q2, spec_l20Book.calls_q1⟩
       ·rw [if_neg c59] at H
        have c59b0 : (t148 == 0) = false := beq_eq_false_iff_ne.mpr c59
        have c59b1 : (t148 != 0) = true := bne_iff_ne.mpr c59
        by_cases c65 : t148 = 1
        ·rw [if_pos c65] at H
         have c65b0 : (t148 == 1) = true := beq_iff_eq.mpr c65
         have c65b1 : (t148 != 1) = false := bne_eq_false_iff_eq.mpr c65
         clear c65
         by_cases c66 : 0 < (x114000_1.length : Int)
         ·rw [if_pos c66] at H
          have c66b0 := decide_eq_true c66
          have c66b1 : decide (0 < x114000_1.length) = true := decide_eq_true (by omega)
          clear c66
          obtain ⟨y150, hy150⟩ : ∃ y_ : List Int, y_ = (x114000_1.set (0 : Int).toNat (-1)) := ⟨_, rfl⟩
          replace H : (some (y150, x114001_1, t149)) = some (r1, r2, r3) := by first | (rw [hy150]; with_reducible exact H) | (have H2_ := (Option.bind_some _ _).symm.trans H; rw [hy150]; with_reducible exact H2_) | (have H2_ := (Option.bind_some _ _).symm.trans H; with_reducible exact H2_) | with_reducible exact H | (rw [hy150]; exact H) | exact H
          have Ny150 := Aside0.mk hy150
          clear hy150
          simp only [Option.some.injEq, Prod.mk.injEq] at H
          obtain ⟨rfl, rfl, rfl⟩ := H
          go_wp2_with (first | ((with_reducible refine gate_callee (f := 88) rfl ?_); refine goesL_ (some 66) rfl rfl Try.func88 k_ rfl #[.pointer (some ⟨g, 0, none⟩), .int .i64 a1] rfl (g2_) ?_; (with_reducible refine (spec_l20Rd_odd.calls k1 g s0_0 x1001_1 a1 true t147 w0 _ ?side1 ?side2 A56.out).mono ?_); (case side1 => exact spec_l20Book.calls_q0); (case side2 => exact spec_l20Book.calls_q2); rintro e w68 ⟨rfl, hi, hb, hk⟩; refine ⟨_, rfl, ?_⟩; replace HO_114000 := Aside0.mk (Kd.R_mono (Kd.R_keep (IsS79.apart (show IsS79 w0 _ g s0_0 x1001_1 from spec_l20Book.calls_q0) (uf1_ HO_114000) (by decide)) hk (fun _ h => h.2)) (fun _ h => h.1)); replace HO_114001 := Aside0.mk (Kd.S_mono (Kd.S_keep (IsS79.apartS (show IsS79 w0 _ g s0_0 x1001_1 from spec_l20Book.calls_q0) (uf2_ HO_114001) (by decide)) hk (fun _ h => h.2)) (fun _ h => h.1)); replace BK106 := Aside0.mk (KeepBut.blk hk (g' := gb106) (o := .cells #[.slice none 0 0, .slice none 0 0] 26 (0, 0)) (uf0_ BK106) NB106_0.out (by simp)); replace BK113 := Aside0.mk (KeepBut.blk hk (g' := gb113) (o := .cells #[u114000, u114001] 26 (0, 0)) (uf0_ BK113) NB113_0.out (by simp)); replace HK := Aside0.mk (KeepBut.trans (spec_l20Book.calls_q1) hk (.inl rfl)); replace HB := Aside0.mk (hb); replace HI0 := Aside0.mk (hi); (try clear hb); (try clear hk hi)) | ((with_reducible refine gate_callee (f := 87) rfl ?_); refine goesL_ (some 68) rfl rfl Try.func87 k_ rfl #[.pointer (some ⟨g, 0, none⟩), .int .i64 4] rfl (g2_) ?_; (with_reducible refine (spec_l20Rd_pick.calls k1 g s0_0 t147 4 t148 t149 w0 _ ?side1 ?side2 A58.out).mono ?_); (case side1 => exact spec_l20Book.calls_q0); (case side2 => exact spec_l20Book.calls_q2); rintro e w69 ⟨rfl, hi, hb, hk⟩; refine ⟨_, rfl, ?_⟩; replace HO_114000 := Aside0.mk (Kd.R_mono (Kd.R_keep (IsS79.apart (show IsS79 w0 _ g s0_0 t147 from spec_l20Book.calls_q0) (uf1_ HO_114000) (by decide)) hk (fun _ h => h.2)) (fun _ h => h.1)); replace HO_114001 := Aside0.mk (Kd.S_mono (Kd.S_keep (IsS79.apartS (show IsS79 w0 _ g s0_0 t147 from spec_l20Book.calls_q0) (uf2_ HO_114001) (by decide)) hk (fun _ h => h.2)) (fun _ h => h.1)); replace BK106 := Aside0.mk (KeepBut.blk hk (g' := gb106) (o := .cells #[.slice none 0 0, .slice none 0 0] 26 (0, 0)) (uf0_ BK106) NB106_0.out (by simp)); replace BK113 := Aside0.mk (KeepBut.blk hk (g' := gb113) (o := .cells #[u114000, u114001] 26 (0, 0)) (uf0_ BK113) NB113_0.out (by simp)); replace HK := Aside0.mk (KeepBut.trans (spec_l20Book.calls_q1) hk (.inl rfl)); replace HB := Aside0.mk (hb); replace HI0 := Aside0.mk (hi); (try clear hb); (try clear hk hi); have hnb70 := NB113_106.out; have hnc70 := NB106_113.out; have hnb71 := NB113_0.out; have hnc71 := NB0_113.out; obtain ⟨hcz72_0, hcz72_1, hfz72_0, hfz72_1⟩ := blk2_ BK113; have p67 : 0 ≤ (0 : Int) := (by omega); have q67 : (0 : Int) < ((x114000_1.length : Int) : Int) := of_decide_eq_true (g1_); have qi67 : (0 < x114000_1.length) = True := eq_true (by omega); obtain ⟨go67, co67, eo67, gb67, gl67, cl67, HG67⟩ := Kd.R_form HO_114000.out (by omega); (first | cases eo67 | (injection eo67 with ea_ en_ ec_; (first | subst ea_ | (injection ea_ with ea_; subst ea_)); subst ec_; clear en_)); have GB67 := Aside0.mk gb67; have GG67 := Aside0.mk HG67; clear gb67 gl67 HG67; obtain ⟨hx67_0, hf67_0⟩ := Kd.R_celln 0 HO_114000.out (0 : Int) p67 q67; (try rw [show ((0 : Int)).toNat = 0 from rfl] at hx67_0); (try simp only [Nat.reduceMul, Nat.zero_mul, Nat.zero_add, Nat.reduceAdd] at hx67_0); (try rw [show ((0 : Int)).toNat = 0 from rfl] at hf67_0); (try simp only [Nat.reduceMul, Nat.zero_mul, Nat.zero_add, Nat.reduceAdd] at hf67_0); replace p67 := eq_true p67; replace q67 := eq_true q67; obtain ⟨hy73_, hz73_⟩ := Kd.R_celln 0 HO_114000.out (0 : Int) (by omega) (of_decide_eq_true (g1_)); (try simp only [Int.reduceToNat, Int.toNat_zero, Int.toNat_ofNat, Nat.reduceMul, Nat.zero_mul, Nat.zero_add] at hy73_ hz73_); (try rw [show ((0 : Int)).toNat = 0 from rfl] at hy73_); (try rw [show ((0 : Int)).toNat = 0 from rfl] at hz73_); have HP73 := Kd.R_putg HO_114000.out (0 : Int) (-1)) | ((with_reducible refine gate_store (t := 3) (p := 88) rfl ?_); refine store_event (t := 3) (p := 88) (v := ?vo_w74) (w1 := (w69.setCell ⟨go67, (0 : Int).toNat, none⟩ (.int .i64 (-1)))) ?hg ?ho ?hn ?hr ?_; (case ho => rfl); (case hg => rfl); (case hn => rfl); (case hr => first | (go_simp; done) | (go_simp; rfl)); intro w74 hw; have hg : w69.grownBy w74 (some go67) := (by rw [hw]; exact HP73.2); have hp_ : Kd.R (Kd.int .i64) 3 w74 w.heap.size (fun k_ => (w.heap.size ≤ k_)) (.slice (some ⟨go67, 0, none⟩) x114000_1.length co67) y150 := (by rw [hw, Ny150.out]; exact HP73.1); clear HP73; replace HO_114001 := Aside0.mk (Kd.S_after (v := (.slice (some ⟨go67, 0, none⟩) x114000_1.length co67)) (v1 := (.slice (some ⟨go67, 0, none⟩) x114000_1.length co67)) (ok := (fun k_ => (w.heap.size ≤ k_))) (uf2_ HO_114001) hg (.inl rfl)); replace BK106 := Aside0.mk (blk_grown (g := gb106) (o := .cells #[.slice none 0 0, .slice none 0 0] 26 (0, 0)) (uf0_ BK106) hg (Kd.R_ne HO_114000.out BK106.out (by decide))); replace BK113 := Aside0.mk (blk_grown (g := gb113) (o := .cells #[.slice (some ⟨go67, 0, none⟩) x114000_1.length co67, u114001] 26 (0, 0)) (uf0_ BK113) hg (Kd.R_ne HO_114000.out BK113.out (by decide))); replace HI0 := Aside0.mk (IsS79.grown (spec_l20Book.calls_q0) hg (IsS79.own_ne HI0.out HO_114000.out (by decide))); replace HB := Aside0.mk ((by rw [hw]; exact below_set (HB.out) (Nat.le_trans HL.out GB67.out) : Below w0.heap.size w0 w74)); replace HK := Aside0.mk (KeepBut.trans (spec_l20Book.calls_q1) (KeepBut.of_grown hg g) (Kd.R_base2 HO_114000.out)); replace HO_114000 := Aside0.mk (hp_); clear hg hw hp_; obtain ⟨hcz75_0, hcz75_1, hfz75_0, hfz75_1⟩ := blk2_ BK113; have hnb76 := NB106_0.out; have hnc76 := NB0_106.out; obtain ⟨hcz77_0, hcz77_1, hfz77_0, hfz77_1⟩ := blk2_ BK106; obtain ⟨Ao78, co78, eo78⟩ := Kd.S_slice HO_114001.out; subst eo78))
          refine bodyPost_ret (results_cell_row rfl _ _ gb106 26 #[.slice (some ⟨go67, 0, none⟩) x114000_1.length co67, .slice Ao78 x114001_1.length co78] (0, 0) _ rfl (by (with_reducible repeat (first | refine blk_drewN ?_ _ | refine blk_drew ?_ | refine blk_alloc ?_ _)); refine blk_put (cs := #[.slice (some ⟨go67, 0, none⟩) x114000_1.length co67, .slice none 0 0]) ?_ 1 _ rfl; (with_reducible repeat (first | refine blk_drewN ?_ _ | refine blk_drew ?_ | refine blk_alloc ?_ _)); refine blk_put (cs := #[.slice none 0 0, .slice none 0 0]) ?_ 0 _ rfl; (with_reducible repeat (first | refine blk_drewN ?_ _ | refine blk_drew ?_ | refine blk_alloc ?_ _)); exact BK106.out) Try.underlying26 rfl (g0_)) rfl ?_
          exact ⟨_, _, g4_, by (with_reducible repeat (first | apply Kd.R_alloc | apply Kd.R_drewN | apply Kd.R_drew)); exact Kd.R_mono (Kd.R_far (p := ⟨gb106, 1, none⟩) (Kd.R_far (p := ⟨gb106, 0, none⟩) (Kd.R_types HO_114000.out BK106.out (by decide)) (fun _ hk => hk.2) (.slice (some ⟨go67, 0, none⟩) x114000_1.length co67)) (fun _ hk => hk.2) (.slice Ao78 x114001_1.length co78)) (fun _ hk => hk.1), Kd.S_V (by (with_reducible repeat (first | apply Kd.S_alloc | apply Kd.S_drewN | apply Kd.S_drew)); exact Kd.S_mono (Kd.S_far (p := ⟨gb106, 1, none⟩) (Kd.S_far (p := ⟨gb106, 0, none⟩) (Kd.S_types HO_114001.out BK106.out (by decide)) (fun _ hk => hk.2) (.slice (some ⟨go67, 0, none⟩) x114000_1.length co67)) (fun _ hk => hk.2) (.slice Ao78 x114001_1.length co78)) (fun _ hk => ⟨hk.1.1, hk.1.2⟩)), spec_l20Book.calls_q0, spec_l20Book.calls_q2, spec_l20Book.calls_q1⟩
         ·rw [if_neg c66] at H
          exact absurd H (by simp)
        ·rw [if_neg c65] at H
         have c65b0 : (t148 == 1) = false := beq_eq_false_iff_ne.mpr c65
         have c65b1 : (t148 != 1) = true := bne_iff_ne.mpr c65
         by_cases c79 : t148 = 2
         ·rw [if_pos c79] at H
          have c79b0 : (t148 == 2) = true := beq_iff_eq.mpr c79
          have c79b1 : (t148 != 2) = false := bne_eq_false_iff_eq.mpr c79
          clear c79
          by_cases c80 : 0 < (x114001_1.length : Int)
          ·rw [if_pos c80] at H
           have c80b0 := decide_eq_true c80
           have c80b1 : decide (0 < x114001_1.length) = true := decide_eq_true (by omega)
           clear c80
           by_cases c81 : 0 < ((rd_L2 x114001_1 0).length : Int)
           ·rw [if_pos c81] at H
            have c81b0 := decide_eq_true c81
            have c81b1 : decide (0 < (rd_L2 x114001_1 0).length) = true := decide_eq_true (by omega)
            clear c81
            obtain ⟨y152, hy152⟩ : ∃ y_ : List Int, y_ = ((rd_L2 x114001_1 0).set (0 : Int).toNat 1) := ⟨_, rfl⟩
            replace H : (some (x114000_1, (x114001_1.set (0 : Int).toNat y152), t149)) = some (r1, r2, r3) := by first | (rw [hy152]; with_reducible exact H) | (have H2_ := (Option.bind_some _ _).symm.trans H; rw [hy152]; with_reducible exact H2_) | (have H2_ := (Option.bind_some _ _).symm.trans H; with_reducible exact H2_) | with_reducible exact H | (rw [hy152]; exact H) | exact H
            have Ny152 := Aside0.mk hy152
            clear hy152
            obtain ⟨y154, hy154⟩ : ∃ y_ : List (List Int), y_ = (x114001_1.set (0 : Int).toNat y152) := ⟨_, rfl⟩
            replace H : (some (x114000_1, y154, t149)) = some (r1, r2, r3) := by first | (rw [hy154]; with_reducible exact H) | (have H2_ := (Option.bind_some _ _).symm.trans H; rw [hy154]; with_reducible exact H2_) | (have H2_ := (Option.bind_some _ _).symm.trans H; with_reducible exact H2_) | with_reducible exact H | (rw [hy154]; exact H) | exact H
            have Ny154 := Aside0.mk hy154
            clear hy154
            simp only [Option.some.injEq, Prod.mk.injEq] at H
            obtain ⟨rfl, rfl, rfl⟩ := H
            go_wp2_with (first | ((with_reducible refine gate_callee (f := 88) rfl ?_); refine goesL_ (some 66) rfl rfl Try.func88 k_ rfl #[.pointer (some ⟨g, 0, none⟩), .int .i64 a1] rfl (g2_) ?_; (with_reducible refine (spec_l20Rd_odd.calls k1 g s0_0 x1001_1 a1 true t147 w0 _ ?side1 ?side2 A56.out).mono ?_); (case side1 => exact spec_l20Book.calls_q0); (case side2 => exact spec_l20Book.calls_q2); rintro e w83 ⟨rfl, hi, hb, hk⟩; refine ⟨_, rfl, ?_⟩; replace HO_114000 := Aside0.mk (Kd.R_mono (Kd.R_keep (IsS79.apart (show IsS79 w0 _ g s0_0 x1001_1 from spec_l20Book.calls_q0) (uf1_ HO_114000) (by decide)) hk (fun _ h => h.2)) (fun _ h => h.1)); replace HO_114001 := Aside0.mk (Kd.S_mono (Kd.S_keep (IsS79.apartS (show IsS79 w0 _ g s0_0 x1001_1 from spec_l20Book.calls_q0) (uf2_ HO_114001) (by decide)) hk (fun _ h => h.2)) (fun _ h => h.1)); replace BK106 := Aside0.mk (KeepBut.blk hk (g' := gb106) (o := .cells #[.slice none 0 0, .slice none 0 0] 26 (0, 0)) (uf0_ BK106) NB106_0.out (by simp)); replace BK113 := Aside0.mk (KeepBut.blk hk (g' := gb113) (o := .cells #[u114000, u114001] 26 (0, 0)) (uf0_ BK113) NB113_0.out (by simp)); replace HK := Aside0.mk (KeepBut.trans (spec_l20Book.calls_q1) hk (.inl rfl)); replace HB := Aside0.mk (hb); replace HI0 := Aside0.mk (hi); (try clear hb); (try clear hk hi)) | ((with_reducible refine gate_callee (f := 87) rfl ?_); refine goesL_ (some 68) rfl rfl Try.func87 k_ rfl #[.pointer (some ⟨g, 0, none⟩), .int .i64 4] rfl (g2_) ?_; (with_reducible refine (spec_l20Rd_pick.calls k1 g s0_0 t147 4 t148 t149 w0 _ ?side1 ?side2 A58.out).mono ?_); (case side1 => exact spec_l20Book.calls_q0); (case side2 => exact spec_l20Book.calls_q2); rintro e w84 ⟨rfl, hi, hb, hk⟩; refine ⟨_, rfl, ?_⟩; replace HO_114000 := Aside0.mk (Kd.R_mono (Kd.R_keep (IsS79.apart (show IsS79 w0 _ g s0_0 t147 from spec_l20Book.calls_q0) (uf1_ HO_114000) (by decide)) hk (fun _ h => h.2)) (fun _ h => h.1)); replace HO_114001 := Aside0.mk (Kd.S_mono (Kd.S_keep (IsS79.apartS (show IsS79 w0 _ g s0_0 t147 from spec_l20Book.calls_q0) (uf2_ HO_114001) (by decide)) hk (fun _ h => h.2)) (fun _ h => h.1)); replace BK106 := Aside0.mk (KeepBut.blk hk (g' := gb106) (o := .cells #[.slice none 0 0, .slice none 0 0] 26 (0, 0)) (uf0_ BK106) NB106_0.out (by simp)); replace BK113 := Aside0.mk (KeepBut.blk hk (g' := gb113) (o := .cells #[u114000, u114001] 26 (0, 0)) (uf0_ BK113) NB113_0.out (by simp)); replace HK := Aside0.mk (KeepBut.trans (spec_l20Book.calls_q1) hk (.inl rfl)); replace HB := Aside0.mk (hb); replace HI0 := Aside0.mk (hi); (try clear hb); (try clear hk hi); have hnb85 := NB113_106.out; have hnc85 := NB106_113.out; have hnb86 := NB113_0.out; have hnc86 := NB0_113.out; obtain ⟨hcz87_0, hcz87_1, hfz87_0, hfz87_1⟩ := blk2_ BK113; obtain ⟨Ao88, co88, eo88⟩ := Kd.S_slice HO_114001.out; subst eo88; have p151 : 0 ≤ (0 : Int) := (by omega); have q151 : 0 < (x114001_1.length : Int) := of_decide_eq_true (g1_); obtain ⟨ad151, A151_0, c151_0, e151, hx151_0, hl151_0, hi151_0⟩ := at_L2 (Kd.S_reads' HO_114001.out).2.2 0 p151 q151; cases e151; obtain ⟨ce151, hce151, hMe151, hcc151⟩ := Kd.S_get HO_114001.out [] 0 p151 (by first | exact q151 | exact of_decide_eq_true (g1_) | (have e_ := (Kd.S_reads' HO_114001.out).1; omega)); obtain ⟨ve151_0, rfl, ge151_0⟩ := hMe151; have hv151_0 := hcc151 0 _ rfl; rw [Nat.add_zero, show ((Kd.slice 3 (Kd.int .i64))).sz = 1 from rfl, Nat.mul_one] at hv151_0; replace hv151_0 := Option.some.inj (hv151_0.symm.trans hx151_0); rw [hv151_0] at ge151_0; have HL151_0 := Aside0.mk (show Kd.R (Kd.int .i64) 3 _ _ _ _ (rd_L2 x114001_1 0) from ge151_0); clear hv151_0 ge151_0; have HX151_0 := Aside0.mk hx151_0; clear hcc151 hce151; have qi151 : (0 < x114001_1.length) = True := eq_true (by omega); (try rw [show ((0 : Int)).toNat = 0 from rfl] at hx151_0); (try rw [Addr.add_zero'] at hx151_0); have HR151_0 := Aside0.mk hi151_0; have HC151_0 := Aside0.mk hl151_0; clear hi151_0 hl151_0; replace p151 := eq_true p151; replace q151 := eq_true q151; have p82 : 0 ≤ (0 : Int) := (by omega); have q82 : (0 : Int) < (((rd_L2 x114001_1 0).length : Int) : Int) := of_decide_eq_true (g1_); have qi82 : (0 < (rd_L2 x114001_1 0).length) = True := eq_true (by omega); obtain ⟨go82, co82, eo82, gb82, gl82, cl82, HG82⟩ := Kd.R_form HL151_0.out (by omega); (first | cases eo82 | (injection eo82 with ea_ en_ ec_; (first | subst ea_ | (injection ea_ with ea_; subst ea_)); subst ec_; clear en_)); have GB82 := Aside0.mk gb82; have GG82 := Aside0.mk HG82; clear gb82 gl82 HG82; obtain ⟨hx82_0, hf82_0⟩ := Kd.R_celln 0 HL151_0.out (0 : Int) p82 q82; (try rw [show ((0 : Int)).toNat = 0 from rfl] at hx82_0); (try simp only [Nat.reduceMul, Nat.zero_mul, Nat.zero_add, Nat.reduceAdd] at hx82_0); (try rw [show ((0 : Int)).toNat = 0 from rfl] at hf82_0); (try simp only [Nat.reduceMul, Nat.zero_mul, Nat.zero_add, Nat.reduceAdd] at hf82_0); replace p82 := eq_true p82; replace q82 := eq_true q82; have hq89 : (0 : Int) < (x114001_1.length : Int) := (by have h_ : (0 : Int) < ((x114001_1.length : Int) : Int) := of_decide_eq_true (g1_); first | exact h_ | (have e_ := (Kd.S_reads' HO_114001.out).1; omega) | simpa only [List.length_set, List.length_set] using h_); obtain ⟨oki89, ce89, hcl89, hM89, hcc89, hok89, hbk89⟩ := Kd.S_borrow HO_114001.out [] (0 : Int) (by omega) hq89; obtain ⟨ve89_0, rfl, ge89_0⟩ := hM89; have hv89 := hcc89 0 _ rfl; rw [Nat.add_zero, show ((Kd.slice 3 (Kd.int .i64))).sz = 1 from rfl, Nat.mul_one] at hv89; replace hv89 := Option.some.inj (hv89.symm.trans HX151_0.out); subst hv89; clear hcc89 hcl89; replace ge89_0 := (show Kd.R (Kd.int .i64) 3 _ _ _ _ (rd_L2 x114001_1 0) from ge89_0); have HP89 := Kd.R_putg ge89_0 (0 : Int) 1) | ((with_reducible refine gate_store (t := 3) (p := 95) rfl ?_); refine store_event (t := 3) (p := 95) (v := ?vo_w90) (w1 := (w84.setCell ⟨go82, 0, none⟩ (.int .i64 1))) ?hg ?ho ?hn ?hr ?_; (case ho => rfl); (case hg => rfl); (case hn => rfl); (case hr => first | (go_simp; done) | (go_simp; rfl)); intro w90 hw; have hg : w84.grownBy w90 (some go82) := (by rw [hw]; exact HP89.2); have hz_ : Kd.R (Kd.int .i64) 3 w90 w.heap.size oki89 (.slice (some ⟨go82, 0, none⟩) (rd_L2 x114001_1 0).length c151_0) y152 := (by rw [hw, Ny152.out]; exact HP89.1); have hp_ : Kd.S (Kd.slice 3 (Kd.int .i64)) 23 w90 w.heap.size (fun k_ => (w.heap.size ≤ k_) ∧ some k_ ≠ (u114000 : Value).ownBlock) (.slice (some ad151) x114001_1.length co88) y154 := (by rw [Ny154.out]; exact hbk89 hg (fun k_ e_ => by injection e_ with e_; subst e_; exact ge89_0.1 _ rfl) (Kd.M_row hz_)); have hm_ := Kd.R_mono hz_ hok89; clear HP89 hbk89; replace HO_114000 := Aside0.mk (Kd.R_grown1 (uf1_ HO_114000) rfl hg ((HL151_0.out.1 _ rfl).1.2)); replace HO_114001 := Aside0.mk (hp_); replace BK106 := Aside0.mk (blk_grown (g := gb106) (o := .cells #[.slice none 0 0, .slice none 0 0] 26 (0, 0)) (uf0_ BK106) hg (Kd.R_ne HL151_0.out BK106.out (by decide))); replace BK113 := Aside0.mk (blk_grown (g := gb113) (o := .cells #[u114000, .slice (some ad151) x114001_1.length co88] 26 (0, 0)) (uf0_ BK113) hg (Kd.R_ne HL151_0.out BK113.out (by decide))); replace HI0 := Aside0.mk (IsS79.grown (spec_l20Book.calls_q0) hg (IsS79.own_ne HI0.out HL151_0.out (by decide))); replace HB := Aside0.mk ((by rw [hw]; exact below_set (HB.out) (Nat.le_trans HL.out GB82.out) : Below w0.heap.size w0 w90)); replace HK := Aside0.mk (KeepBut.trans (spec_l20Book.calls_q1) (KeepBut.of_grown hg g) (Kd.R_base2 HL151_0.out)); have HL155 := Aside0.mk (hm_); have HC153 := Aside0.mk ((Kd.R_reads' hm_).2.1); clear HL151_0; clear hg hw hp_ hz_ hm_ hok89; obtain ⟨hcz91_0, hcz91_1, hfz91_0, hfz91_1⟩ := blk2_ BK113; obtain ⟨Ao92, co92, eo92⟩ := Kd.R_slice HO_114000.out; subst eo92; have hnb93 := NB106_0.out; have hnc93 := NB0_106.out; obtain ⟨hcz94_0, hcz94_1, hfz94_0, hfz94_1⟩ := blk2_ BK106))
            refine bodyPost_ret (results_cell_row rfl _ _ gb106 26 #[.slice Ao92 x114000_1.length co92, .slice (some ad151) x114001_1.length co88] (0, 0) _ rfl (by (with_reducible repeat (first | refine blk_drewN ?_ _ | refine blk_drew ?_ | refine blk_alloc ?_ _)); refine blk_put (cs := #[.slice Ao92 x114000_1.length co92, .slice none 0 0]) ?_ 1 _ rfl; (with_reducible repeat (first | refine blk_drewN ?_ _ | refine blk_drew ?_ | refine blk_alloc ?_ _)); refine blk_put (cs := #[.slice none 0 0, .slice none 0 0]) ?_ 0 _ rfl; (with_reducible repeat (first | refine blk_drewN ?_ _ | refine blk_drew ?_ | refine blk_alloc ?_ _)); exact BK106.out) Try.underlying26 rfl (g0_)) rfl ?_
            exact ⟨_, _, g4_, by (with_reducible repeat (first | apply Kd.R_alloc | apply Kd.R_drewN | apply Kd.R_drew)); exact Kd.R_mono (Kd.R_far (p := ⟨gb106, 1, none⟩) (Kd.R_far (p := ⟨gb106, 0, none⟩) (Kd.R_types HO_114000.out BK106.out (by decide)) (fun _ hk => hk.2) (.slice Ao92 x114000_1.length co92)) (fun _ hk => hk.2) (.slice (some ad151) x114001_1.length co88)) (fun _ hk => hk.1), Kd.S_V (by (with_reducible repeat (first | apply Kd.S_alloc | apply Kd.S_drewN | apply Kd.S_drew)); exact Kd.S_mono (Kd.S_far (p := ⟨gb106, 1, none⟩) (Kd.S_far (p := ⟨gb106, 0, none⟩) (Kd.S_types HO_114001.out BK106.out (by decide)) (fun _ hk => hk.2) (.slice Ao92 x114000_1.length co92)) (fun _ hk => hk.2) (.slice (some ad151) x114001_1.length co88)) (fun _ hk => ⟨hk.1.1, hk.1.2⟩)), spec_l20Book.calls_q0, spec_l20Book.calls_q2, spec_l20Book.calls_q1⟩
           ·rw [if_neg c81] at H
            exact absurd H (by simp)
          ·rw [if_neg c80] at H
           exact absurd H (by simp)
         ·rw [if_neg c79] at H
          have n_ : Kd.N (Kd.slice 3 (Kd.int .i64)) 23 wr w.heap.size (fun k_ => (w.heap.size ≤ k_) ∧ some k_ ≠ (u114000 : Value).ownBlock ∧ k_ ≠ gb106 ∧ k_ ≠ gb113 ∧ k_ ≠ g) u114001 x114001_1 := Kd.N_mono (Kd.S_N (IsS79.apartS HI0.out (Kd.S_types (Kd.S_types HO_114001.out BK106.out (by decide)) BK113.out (by decide)) (by decide))) (fun k_ hk => ⟨hk.1.1.1.1, hk.1.1.1.2, hk.1.1.2, hk.1.2, hk.2⟩)
          clear HO_114001
          have HO_114001 := Aside0.mk n_
          clear n_
          have c79b0 : (t148 == 2) = false := beq_eq_false_iff_ne.mpr c79
          have c79b1 : (t148 != 2) = true := bne_iff_ne.mpr c79
          obtain ⟨ji80, hji80⟩ : ∃ j_ : Int, (wrap64 ((rd y107 t110) - 1)) = j_ := ⟨_, rfl⟩
          replace H : (if 0 ≤ (ji80) then (if (ji80) < (x114001_1.length : Int) then (if 1 ≤ ((rd_L2 x114001_1 (ji80)).length : Int) then (some (x114000_1, (x114001_1.set ((ji80) : Int).toNat ((rd_L2 x114001_1 (ji80)).drop 1)), t149)) else (none)) else (none)) else (none)) = some (r1, r2, r3) := by first | (rw [hji80] at H; exact H) | (simp only [hji80] at H ⊢; exact H)
          (try rw [hji80] at A56)
          (try rw [hji80] at A58)
          have hji80w : (IntKind.i64.wrap ((rd y107 t110) - 1)) = ji80 := (i64_w _).trans hji80
          by_cases c81 : 0 ≤ (ji80)
          ·rw [if_pos c81] at H
           have c81b0 := decide_eq_true c81
           clear c81
           by_cases c82 : (ji80) < (x114001_1.length : Int)
           ·rw [if_pos c82] at H
            have c82b0 := decide_eq_true c82
            clear c82
            by_cases c83 : 1 ≤ ((rd_L2 x114001_1 (ji80)).length : Int)
            ·rw [if_pos c83] at H
             have c83b0 := eq_true c83
             have c83b1 := decide_eq_true c83
             clear c83
             obtain ⟨y152, hy152⟩ : ∃ y_ : List Int, y_ = ((rd_L2 x114001_1 (ji80)).drop 1) := ⟨_, rfl⟩
             replace H : (some (x114000_1, (x114001_1.set ((ji80) : Int).toNat y152), t149)) = some (r1, r2, r3) := by first | (rw [hy152]; with_reducible exact H) | (have H2_ := (Option.bind_some _ _).symm.trans H; rw [hy152]; with_reducible exact H2_) | (have H2_ := (Option.bind_some _ _).symm.trans H; with_reducible exact H2_) | with_reducible exact H | (rw [hy152]; exact H) | exact H
             have Ny152 := Aside0.mk hy152
             clear hy152
             obtain ⟨y157, hy157⟩ : ∃ y_ : List (List Int), y_ = (x114001_1.set ((ji80) : Int).toNat y152) := ⟨_, rfl⟩
             replace H : (some (x114000_1, y157, t149)) = some (r1, r2, r3) := by first | (rw [hy157]; with_reducible exact H) | (have H2_ := (Option.bind_some _ _).symm.trans H; rw [hy157]; with_reducible exact H2_) | (have H2_ := (Option.bind_some _ _).symm.trans H; with_reducible exact H2_) | with_reducible exact H | (rw [hy157]; exact H) | exact H
             have Ny157 := Aside0.mk hy157
             clear hy157
             simp only [Option.some.injEq, Prod.mk.injEq] at H
             obtain ⟨rfl, rfl, rfl⟩ := H
             try go_wp2_with (first | ((with_reducible refine gate_callee (f := 88) rfl ?_); refine goesL_ (some 66) rfl rfl Try.func88 k_ rfl #[.pointer (some ⟨g, 0, none⟩), .int .i64 a1] rfl (g2_) ?_; (with_reducible refine (spec_l20Rd_odd.calls k1 g s0_0 x1001_1 a1 true t147 w0 _ ?side1 ?side2 A56.out).mono ?_); (case side1 => exact spec_l20Book.calls_q0); (case side2 => exact spec_l20Book.calls_q2); rintro e w85 ⟨rfl, hi, hb, hk⟩; refine ⟨_, rfl, ?_⟩; replace HO_114000 := Aside0.mk (Kd.R_mono (Kd.R_keep (IsS79.apart (show IsS79 w0 _ g s0_0 x1001_1 from spec_l20Book.calls_q0) (uf1_ HO_114000) (by decide)) hk (fun _ h => h.2)) (fun _ h => h.1)); replace HO_114001 := Aside0.mk (Kd.N_mono (Kd.N_keep (Kd.N_mono (ok := fun k_ => (((w.heap.size ≤ k_)) ∧ (some k_ ≠ (u114000 : Value).ownBlock ∧ (k_ ≠ gb106 ∧ (k_ ≠ gb113 ∧ k_ ≠ g))))) (uf3_ HO_114001) (fun k_ hk_ => (⟨hk_, hk_.2.2.2.2⟩ : _ ∧ k_ ≠ g))) hk (fun _ h => h.2)) (fun _ h => h.1)); replace BK106 := Aside0.mk (KeepBut.blk hk (g' := gb106) (o := .cells #[.slice none 0 0, .slice none 0 0] 26 (0, 0)) (uf0_ BK106) NB106_0.out (by simp)); replace BK113 := Aside0.mk (KeepBut.blk hk (g' := gb113) (o := .cells #[u114000, u114001] 26 (0, 0)) (uf0_ BK113) NB113_0.out (by simp)); replace HK := Aside0.mk (KeepBut.trans (spec_l20Book.calls_q1) hk (.inl rfl)); replace HB := Aside0.mk (hb); replace HI0 := Aside0.mk (hi); (try clear hb); (try clear hk hi)) | ((with_reducible refine gate_callee (f := 87) rfl ?_); refine goesL_ (some 68) rfl rfl Try.func87 k_ rfl #[.pointer (some ⟨g, 0, none⟩), .int .i64 4] rfl (g2_) ?_; (with_reducible refine (spec_l20Rd_pick.calls k1 g s0_0 t147 4 t148 t149 w0 _ ?side1 ?side2 A58.out).mono ?_); (case side1 => exact spec_l20Book.calls_q0); (case side2 => exact spec_l20Book.calls_q2); rintro e w86 ⟨rfl, hi, hb, hk⟩; refine ⟨_, rfl, ?_⟩; replace HO_114000 := Aside0.mk (Kd.R_mono (Kd.R_keep (IsS79.apart (show IsS79 w0 _ g s0_0 t147 from spec_l20Book.calls_q0) (uf1_ HO_114000) (by decide)) hk (fun _ h => h.2)) (fun _ h => h.1)); replace HO_114001 := Aside0.mk (Kd.N_mono (Kd.N_keep (Kd.N_mono (ok := fun k_ => (((w.heap.size ≤ k_)) ∧ (some k_ ≠ (u114000 : Value).ownBlock ∧ (k_ ≠ gb106 ∧ (k_ ≠ gb113 ∧ k_ ≠ g))))) (uf3_ HO_114001) (fun k_ hk_ => (⟨hk_, hk_.2.2.2.2⟩ : _ ∧ k_ ≠ g))) hk (fun _ h => h.2)) (fun _ h => h.1)); replace BK106 := Aside0.mk (KeepBut.blk hk (g' := gb106) (o := .cells #[.slice none 0 0, .slice none 0 0] 26 (0, 0)) (uf0_ BK106) NB106_0.out (by simp)); replace BK113 := Aside0.mk (KeepBut.blk hk (g' := gb113) (o := .cells #[u114000, u114001] 26 (0, 0)) (uf0_ BK113) NB113_0.out (by simp)); replace HK := Aside0.mk (KeepBut.trans (spec_l20Book.calls_q1) hk (.inl rfl)); replace HB := Aside0.mk (hb); replace HI0 := Aside0.mk (hi); (try clear hb); (try clear hk hi)))
             replace HO_114000 := Aside0.mk (Kd.R_drew HO_114000.out)
             replace HO_114001 := Aside0.mk (Kd.N_drew HO_114001.out)
             replace BK106 := Aside0.mk (blk_drew BK106.out)
             replace BK113 := Aside0.mk (blk_drew BK113.out)
             replace HI0 := Aside0.mk (IsS79.drew HI0.out)
             replace HK := Aside0.mk (keep_drew HK.out)
             replace HB := Aside0.mk (below_drew1 HB.out)
             obtain ⟨Ao88, co88, eo88⟩ := Kd.N_slice HO_114001.out
             (first | subst eo88 | (injection eo88 with f1_ f2_ f3_; have f4_ := f1_.symm; have f5_ := f3_.symm; clear f1_ f2_ f3_; subst f4_; subst f5_))
             have p151 : 0 ≤ ((ji80) : Int) := of_decide_eq_true (g1_)
             have q151 : (ji80) < (x114001_1.length : Int) := of_decide_eq_true (g1_)
             obtain ⟨ad151, A151_0, c151_0, e151, hx151_0, hl151_0, hi151_0⟩ := at_L2 (Kd.N_reads' HO_114001.out).2.2 (ji80) p151 q151
             cases e151
             obtain ⟨ce151, hce151, hMe151, hcc151⟩ := Kd.N_get HO_114001.out [] (ji80) p151 (by first | exact q151 | exact of_decide_eq_true (g1_) | (have e_ := (Kd.N_reads' HO_114001.out).1; omega))
             obtain ⟨ua151_0, uc151_0, rfl, ul151_0, ge151_0⟩ := Kd.FK_slice_open hMe151
             have hv151_0 := hcc151 0 _ rfl
             rw [Nat.add_zero, show ((Kd.slice 3 (Kd.int .i64))).sz = 1 from rfl, Nat.mul_one] at hv151_0
             replace hv151_0 := Option.some.inj (hv151_0.symm.trans hx151_0)
             injection hv151_0 with hva_ hvn_ hvc_
             rw [hva_] at ge151_0
             rw [hvc_] at ul151_0
             have HL151_0 := Aside0.mk (show Kd.V (Kd.int .i64) 3 _ w.heap.size _ _ (rd_L2 x114001_1 (ji80)) from Kd.V_mk ul151_0 ge151_0)
             clear hva_ hvn_ hvc_ ge151_0 ul151_0
             clear hcc151 hce151
             have HR151_0 := Aside0.mk hi151_0
             have HC151_0 := Aside0.mk hl151_0
             clear hi151_0 hl151_0
             replace p151 := eq_true p151
             replace q151 := eq_true q151
             have q89 : (1 : Int) ≤ (((rd_L2 x114001_1 (ji80)).length : Int) : Int) := of_decide_eq_true (g1_)
             obtain ⟨i089, hi089, _, hsz89, _⟩ := info_parts info3
             have hroom89 : (rd_L2 x114001_1 (ji80)).length ≤ c151_0 := HC151_0.out
             have hC89 : Kd.F (Kd.int .i64) _ _ A151_0 (rd_L2 x114001_1 (ji80)).length (rd_L2 x114001_1 (ji80)) := (Kd.V_at (base := w.heap.size) HL151_0.out).2.2
             have hcut89 := cut_from (P := Try.prog) 23 3 .i64 Try.underlying23 hi089 1 hsz89 A151_0 (rd_L2 x114001_1 (ji80)).length c151_0 1 (by omega) q89
             have hr89 := Kd.F_cut (m := (1 : Int).toNat) (c := c151_0) hC89 (by omega) hroom89
             obtain ⟨A89, hA89⟩ : ∃ A1, A1 = (if c151_0 = (1 : Int).toNat then A151_0 else (A151_0 : Option Addr).map (·.add ((1 : Int).toNat * 1))) := ⟨_, rfl⟩
             obtain ⟨c89, hc89⟩ : ∃ c1, c1 = c151_0 - (1 : Int).toNat := ⟨_, rfl⟩
             have hy89 : y152.length = (rd_L2 x114001_1 (ji80)).length - (1 : Int).toNat := (by rw [Ny152.out, List.length_drop] <;> omega)
             rw [show (rd_L2 x114001_1 (ji80)).drop (1 : Int).toNat = y152 from Ny152.out.symm] at hr89
             replace hr89 : Kd.F (Kd.int .i64) _ _ A89 y152.length y152 := (by rw [hA89]; exact hr89)
             rw [← hy89, ← hA89, ← hc89] at hcut89
             have HO156 := Aside0.mk (show Kd.V (Kd.int .i64) 3 _ w.heap.size _ (.slice A89 y152.length c89) y152 from Kd.V_mk (by rw [hy89, hc89]; exact Nat.sub_le_sub_right hroom89 _) hr89)
             have HC156 := Aside0.mk (show y152.length ≤ c89 from by rw [hy89, hc89]; exact Nat.sub_le_sub_right hroom89 _)
             clear hr89 hC89 hroom89 hi089 hsz89 hc89
             have KY89 := Aside0.mk hy89
             have KA89 := Aside0.mk hA89
             clear hy89 hA89
             replace q89 := eq_true q89
             have p84 : 0 ≤ ((ji80) : Int) := of_decide_eq_true (g1_)
             have q84 : ((ji80) : Int) < ((x114001_1.length : Int) : Int) := of_decide_eq_true (g1_)
             obtain ⟨go84, co84, eo84, gb84, gl84, cl84, HG84⟩ := Kd.N_form HO_114001.out (by omega)
             (first | cases eo84 | (injection eo84 with ea_ en_ ec_; (first | subst ea_ | (injection ea_ with ea_; subst ea_)); subst ec_; clear en_))
             have GB84 := Aside0.mk gb84
             have GG84 := Aside0.mk HG84
             clear gb84 gl84 HG84
             (first | simp only [add_plain] at hx151_0 | skip)
             obtain ⟨ce84, hcl84, hM84, hcc84, hfr84⟩ := Kd.N_elem HO_114001.out [] ((ji80) : Int) p84 q84
             obtain ⟨ua84_0, uc84_0, rfl, ul84_0, ge84_0⟩ := Kd.FK_slice_open hM84
             have hx84_0 := hcc84 0 _ rfl
             have hf84_0 := hfr84 0
             (try simp only [show ((Kd.slice 3 (Kd.int .i64))).sz = 1 from rfl, Nat.mul_one, Nat.add_zero] at hx84_0)
             (try simp only [show ((Kd.slice 3 (Kd.int .i64))).sz = 1 from rfl, Nat.mul_one, Nat.add_zero] at hf84_0)
             clear hcl84 hcc84 hfr84 hM84
             replace p84 := eq_true p84
             replace q84 := eq_true q84
             have HN0_go84 := Aside0.mk (show g ≠ go84 from by have h_ := IsS79.own_neN HI0.out HO_114001.out (by decide); intro e_; exact h_ (g36_))
             have HX90 := Aside0.mk (show Kd.N (Kd.slice 3 (Kd.int .i64)) 23 _ w.heap.size (fun k_ => (w.heap.size ≤ k_) ∧ some k_ ≠ (u114000 : Value).ownBlock ∧ k_ ≠ gb106 ∧ k_ ≠ gb113 ∧ k_ ≠ g) (.slice (some ⟨go84, 0, none⟩) x114001_1.length co88) x114001_1 from (Kd.N_mono (HO_114001.out) (fun k_ hk => ⟨hk.1, ⟨hk.2.1, ⟨hk.2.2.1, ⟨hk.2.2.2.1, hk.2.2.2.2⟩⟩⟩⟩)))
             obtain ⟨ce90, hcl90, hM90, hcc90, hfr90⟩ := Kd.N_elem HX90.out [] ((ji80) : Int) (of_decide_eq_true (g1_)) (by have h_ : ((ji80) : Int) < ((x114001_1.length : Int) : Int) := of_decide_eq_true (g1_); first | exact h_ | (have e_ := (Kd.N_reads' HO_114001.out).1; omega) | simpa using h_)
             obtain ⟨ua90_0, uc90_0, rfl, ul90_0, ge90_0⟩ := Kd.FK_slice_open hM90
             have HP90 := (Kd.N_seg HX90.out ((ji80) : Int) (of_decide_eq_true (g1_)) (by have h_ : ((ji80) : Int) < ((x114001_1.length : Int) : Int) := of_decide_eq_true (g1_); first | exact h_ | (have e_ := (Kd.N_reads' HO_114001.out).1; omega) | simpa using h_) (seg := [.slice A89 y152.length c89]) (j := 0) hcl90 hcc90 (show 1 ≤ 1 from by decide) (x' := y152) (Kd.FK_slice_mk (Kd.V_reads' (Kd.V_mono (ok' := (fun k_ => ((fun k_ => (w.heap.size ≤ k_) ∧ some k_ ≠ (u114000 : Value).ownBlock ∧ k_ ≠ gb106 ∧ k_ ≠ gb113 ∧ k_ ≠ g)) k_ ∧ k_ ≠ go84)) (HO156.out) (fun k_ hk => ⟨⟨hk.1.1, ⟨hk.1.2.1, ⟨hk.1.2.2.1, ⟨hk.1.2.2.2.1, hk.1.2.2.2.2⟩⟩⟩⟩, fun e_ => (hk.2) (g36_)⟩))).2.1 (Kd.V_F (Kd.V_mono (ok' := (fun k_ => ((fun k_ => (w.heap.size ≤ k_) ∧ some k_ ≠ (u114000 : Value).ownBlock ∧ k_ ≠ gb106 ∧ k_ ≠ gb113 ∧ k_ ≠ g)) k_ ∧ k_ ≠ go84)) (HO156.out) (fun k_ hk => ⟨⟨hk.1.1, ⟨hk.1.2.1, ⟨hk.1.2.2.1, ⟨hk.1.2.2.2.1, hk.1.2.2.2.2⟩⟩⟩⟩, fun e_ => (hk.2) (g36_)⟩)))) (fun _ hk => hk)).1
             (try simp only [show ((Kd.slice 3 (Kd.int .i64))).sz = 1 from rfl, Nat.mul_one, Nat.add_zero] at HP90)
             rw [← Ny157.out] at HP90
             have HQ90 := Aside0.mk HP90
             clear hcl90 hcc90 hfr90 hM90 HP90
             refine start_ (n := 13) (S := fun w' => w'.cell? ⟨gb113, 0, none⟩ = some (u114000) ∧ w'.cell? ⟨gb113, 1, none⟩ = some (.slice (some ⟨go84, 0, none⟩) x114001_1.length co88) ∧ w'.cell? ⟨go84, ((ji80)).toNat, none⟩ = some (.slice A151_0 (rd_L2 x114001_1 (ji80)).length c151_0)) (ds := [12]) (tl_ 13 0) (g0_) rfl (g0_) ⟨(blk_cell BK113.out 0).trans rfl, (blk_cell BK113.out 1).trans rfl, hx151_0⟩ (fun hHeld => ?_); refine with_tabW spec_l20Book.tab19 spec_l20Book.bits19 (fun HT_ HW_ => ?_)
             generalize w86.drew = w87 at HO_114000 HO_114001 BK106 BK113 HI0 HK HB GG84 HL151_0 HO156 HQ90 HR151_0 hf84_0 hx151_0 hx84_0 hHeld ⊢
             refine pw_ 0 69 (tl_ 13 1) rfl rfl ?_
             refine pw_ 2 71 (tl_ 13 5) rfl rfl ?_
             refine pw_ 3 72 (tl_ 13 13) rfl rfl ?_
             refine pw_ 4 73 (tl_ 13 29) rfl rfl ?_
             refine pw_ 6 75 (tl_ 13 93) rfl rfl ?_
             refine pw_ 7 76 (tl_ 13 221) rfl rfl ?_
             refine tk1_ 1 70 (tl_ 13 223) rfl rfl hHeld ?_
             refine tk1_ 5 74 (tl_ 13 255) rfl rfl hHeld ?_
             refine pw_ 8 77 (tl_ 13 511) rfl rfl ?_
             refine tk1_ 9 78 (tl_ 13 1023) rfl rfl hHeld ?_
             refine pw_ 10 79 (tl_ 13 2047) rfl rfl ?_
             refine pw_ 11 80 (tl_ 13 4095) rfl rfl ?_
             refine last_ (i := 12) (N := none) (tl_ 13 8191) rfl rfl (one_of HT_.out (g0_)) (by decide) (fun K hK => ?_)
             refine skip_ (w1 := ?_) (by rfl) rfl ?_ ?_
             rotate_left
             ·go_simp
              rfl
             refine hK.out _ _ ?_
             clear hK K
             refine done_ (done_of HT_.out (g0_)) ?_
             have n0_ : Aside0 (Kd.R (Kd.int .i64) 3 (w87.setCell ⟨go84, ((ji80) : Int).toNat, none⟩ (.slice A89 y152.length c89)) w.heap.size (fun k_ => (w.heap.size ≤ k_)) u114000 x114000_1) := ⟨by (with_reducible repeat (first | apply Kd.R_alloc | apply Kd.R_drewN | apply Kd.R_drew)); exact Kd.R_mono (Kd.R_far (p := ⟨go84, ((ji80) : Int).toNat, none⟩) (Kd.R_types HO_114000.out GG84.out (by decide)) (fun _ hk => hk.2) (.slice A89 y152.length c89)) (fun _ hk => hk.1)⟩
             have n1_ : Aside0 (Kd.N (Kd.slice 3 (Kd.int .i64)) 23 (w87.setCell ⟨go84, ((ji80) : Int).toNat, none⟩ (.slice A89 y152.length c89)) w.heap.size (fun k_ => (w.heap.size ≤ k_) ∧ some k_ ≠ (u114000 : Value).ownBlock ∧ k_ ≠ gb106 ∧ k_ ≠ gb113 ∧ k_ ≠ g) (.slice (some ⟨go84, 0, none⟩) x114001_1.length co88) y157) := ⟨uf3_ HQ90⟩
             have n2_ : Aside0 (Kd.V (Kd.int .i64) 3 (w87.setCell ⟨go84, ((ji80) : Int).toNat, none⟩ (.slice A89 y152.length c89)) w.heap.size (fun k_ => (w.heap.size ≤ k_) ∧ some k_ ≠ (u114000 : Value).ownBlock ∧ some k_ ≠ (.slice (some ⟨go84, 0, none⟩) x114001_1.length co88 : Value).ownBlock ∧ k_ ≠ gb106 ∧ k_ ≠ gb113 ∧ k_ ≠ g) (.slice A151_0 (rd_L2 x114001_1 (ji80)).length c151_0) (rd_L2 x114001_1 (ji80))) := ⟨by (with_reducible repeat (first | apply Kd.V_alloc | apply Kd.V_drewN | apply Kd.V_drew)); exact Kd.V_mono (Kd.V_far (p := ⟨go84, ((ji80) : Int).toNat, none⟩) (Kd.V_mono HL151_0.out (fun k_ hk => (⟨hk, fun e_ => hk.2 (g36_)⟩ : _ ∧ k_ ≠ go84))) (fun _ hk => hk.2) (.slice A89 y152.length c89)) (fun _ hk => ⟨hk.1.1.1, ⟨hk.1.1.2.1, ⟨hk.1.2, ⟨hk.1.1.2.2.1, ⟨hk.1.1.2.2.2.1, hk.1.1.2.2.2.2⟩⟩⟩⟩⟩)⟩
             have n3_ : Aside0 (Kd.V (Kd.int .i64) 3 (w87.setCell ⟨go84, ((ji80) : Int).toNat, none⟩ (.slice A89 y152.length c89)) w.heap.size (fun k_ => (w.heap.size ≤ k_) ∧ some k_ ≠ (u114000 : Value).ownBlock ∧ some k_ ≠ (.slice (some ⟨go84, 0, none⟩) x114001_1.length co88 : Value).ownBlock ∧ k_ ≠ gb106 ∧ k_ ≠ gb113 ∧ k_ ≠ g) (.slice A89 y152.length c89) y152) := ⟨by (with_reducible repeat (first | apply Kd.V_alloc | apply Kd.V_drewN | apply Kd.V_drew)); exact Kd.V_mono (Kd.V_far (p := ⟨go84, ((ji80) : Int).toNat, none⟩) (Kd.V_mono HO156.out (fun k_ hk => (⟨hk, fun e_ => hk.2 (g36_)⟩ : _ ∧ k_ ≠ go84))) (fun _ hk => hk.2) (.slice A89 y152.length c89)) (fun _ hk => ⟨hk.1.1.1, ⟨hk.1.1.2.1, ⟨hk.1.2, ⟨hk.1.1.2.2.1, ⟨hk.1.1.2.2.2.1, hk.1.1.2.2.2.2⟩⟩⟩⟩⟩)⟩
             have n4_ : Aside0 ((w87.setCell ⟨go84, ((ji80) : Int).toNat, none⟩ (.slice A89 y152.length c89)).heap[gb106]? = some (.cells #[.slice none 0 0, .slice none 0 0] 26 (0, 0))) := ⟨by (with_reducible repeat (first | refine blk_drewN ?_ _ | refine blk_drew ?_ | refine blk_alloc ?_ _)); refine blk_far ?_ (by have h_ := Kd.N_away HO_114001.out (fun _ hk => hk.2.2.1); intro e_; exact h_ (g36_)) _; (with_reducible repeat (first | refine blk_drewN ?_ _ | refine blk_drew ?_ | refine blk_alloc ?_ _)); exact BK106.out⟩
             have n5_ : Aside0 ((w87.setCell ⟨go84, ((ji80) : Int).toNat, none⟩ (.slice A89 y152.length c89)).heap[gb113]? = some (.cells #[u114000, .slice (some ⟨go84, 0, none⟩) x114001_1.length co88] 26 (0, 0))) := ⟨by (with_reducible repeat (first | refine blk_drewN ?_ _ | refine blk_drew ?_ | refine blk_alloc ?_ _)); refine blk_far ?_ (by have h_ := Kd.N_away HO_114001.out (fun _ hk => hk.2.2.2.1); intro e_; exact h_ (g36_)) _; (with_reducible repeat (first | refine blk_drewN ?_ _ | refine blk_drew ?_ | refine blk_alloc ?_ _)); exact BK113.out⟩
             have n6_ : Aside0 (IsS79 w0 (w87.setCell ⟨go84, ((ji80) : Int).toNat, none⟩ (.slice A89 y152.length c89)) g s0_0 t149) := ⟨spec_l20Book.calls_q0⟩
             have n7_ : Aside0 (KeepBut w (w87.setCell ⟨go84, ((ji80) : Int).toNat, none⟩ (.slice A89 y152.length c89)) g none) := ⟨spec_l20Book.calls_q1⟩
             have n8_ : Aside0 (Below w0.heap.size w0 (w87.setCell ⟨go84, ((ji80) : Int).toNat, none⟩ (.slice A89 y152.length c89))) := ⟨spec_l20Book.calls_q2⟩
             (try clear HO_114000)
             (try clear HO_114001)
             (try clear HL151_0)
             (try clear HO156)
             (try clear BK106)
             (try clear BK113)
             (try clear HI0)
             (try clear HK)
             (try clear HB)
             generalize (w87.setCell ⟨go84, ((ji80) : Int).toNat, none⟩ (.slice A89 y152.length c89)) = w91 at n0_ n1_ n2_ n3_ n4_ n5_ n6_ n7_ n8_ ⊢
             have HO_114000 := n0_
             have HO_114001 := n1_
             have HL151_0 := n2_
             have HO156 := n3_
             have BK106 := n4_
             have BK113 := n5_
             have HI0 := n6_
             have HK := n7_
             have HB := n8_
             clear n0_ n1_ n2_ n3_ n4_ n5_ n6_ n7_ n8_
             have hnb92 := NB113_106.out
             have hnc92 := NB106_113.out
             have hnb93 := NB113_0.out
             have hnc93 := NB0_113.out
             obtain ⟨hcz94_0, hcz94_1, hfz94_0, hfz94_1⟩ := blk2_ BK113
             obtain ⟨Ao95, co95, eo95⟩ := Kd.R_slice HO_114000.out
             subst eo95
             have hnb96 := NB106_0.out
             have hnc96 := NB0_106.out
             obtain ⟨hcz97_0, hcz97_1, hfz97_0, hfz97_1⟩ := blk2_ BK106
             try go_wp2
             refine bodyPost_ret (results_cell_row rfl _ _ gb106 26 #[.slice Ao95 x114000_1.length co95, .slice (some ⟨go84, 0, none⟩) x114001_1.length co88] (0, 0) _ rfl (by (with_reducible repeat (first | refine blk_drewN ?_ _ | refine blk_drew ?_ | refine blk_alloc ?_ _)); refine blk_put (cs := #[.slice Ao95 x114000_1.length co95, .slice none 0 0]) ?_ 1 _ rfl; (with_reducible repeat (first | refine blk_drewN ?_ _ | refine blk_drew ?_ | refine blk_alloc ?_ _)); refine blk_put (cs := #[.slice none 0 0, .slice none 0 0]) ?_ 0 _ rfl; (with_reducible repeat (first | refine blk_drewN ?_ _ | refine blk_drew ?_ | refine blk_alloc ?_ _)); exact BK106.out) Try.underlying26 rfl (g0_)) rfl ?_
             exact ⟨_, _, by first | rfl | (simp [errW_none, errW_some] <;> rfl) | (simp only [← hji80]; first | rfl | (simp [errW_none, errW_some] <;> rfl)) | (simp [*, errW_none, errW_some] <;> rfl), by (with_reducible repeat (first | apply Kd.R_alloc | apply Kd.R_drewN | apply Kd.R_drew)); exact Kd.R_mono (Kd.R_far (p := ⟨gb106, 1, none⟩) (Kd.R_far (p := ⟨gb106, 0, none⟩) (Kd.R_types HO_114000.out BK106.out (by decide)) (fun _ hk => hk.2) (.slice Ao95 x114000_1.length co95)) (fun _ hk => hk.2) (.slice (some ⟨go84, 0, none⟩) x114001_1.length co88)) (fun _ hk => hk.1), Kd.N_V (by (with_reducible repeat (first | apply Kd.N_alloc | apply Kd.N_drewN | apply Kd.N_drew)); exact Kd.N_mono (Kd.N_far (p := ⟨gb106, 1, none⟩) (Kd.N_far (p := ⟨gb106, 0, none⟩) (Kd.N_mono HO_114001.out (fun k_ hk => (⟨hk, hk.2.2.1⟩ : _ ∧ k_ ≠ gb106))) (fun _ hk => hk.2) (.slice Ao95 x114000_1.length co95)) (fun _ hk => hk.2) (.slice (some ⟨go84, 0, none⟩) x114001_1.length co88)) (fun _ hk => ⟨hk.1.1, hk.1.2.1⟩)), spec_l20Book.calls_q0, spec_l20Book.calls_q2, spec_l20Book.calls_q1⟩
            ·rw [if_neg c83] at H
             exact absurd H (by simp)
           ·rw [if_neg c82] at H
            exact absurd H (by simp)
          ·rw [if_neg c81] at H
           exact absurd H (by simp)
      ·replace c57 := Bool.eq_false_iff.mpr c57
       subst c57
       replace H := ifn_ H
       simp only [Option.some.injEq, Prod.mk.injEq] at H
       obtain ⟨rfl, rfl, rfl⟩ := H
       go_wp2_with (first | ((with_reducible refine gate_callee (f := 88) rfl ?_); refine goesL_ (some 66) rfl rfl Try.func88 k_ rfl #[.pointer (some ⟨g, 0, none⟩), .int .i64 a1] rfl (g2_) ?_; (with_reducible refine (spec_l20Rd_odd.calls k1 g s0_0 x1001_1 a1 false t147 w0 _ ?side1 ?side2 A56.out).mono ?_); (case side1 => exact spec_l20Book.calls_q0); (case side2 => exact spec_l20Book.calls_q2); rintro e w95 ⟨rfl, hi, hb, hk⟩; refine ⟨_, rfl, ?_⟩; replace HO_114000 := Aside0.mk (Kd.R_mono (Kd.R_keep (IsS79.apart (show IsS79 w0 _ g s0_0 x1001_1 from spec_l20Book.calls_q0) (uf1_ HO_114000) (by decide)) hk (fun _ h => h.2)) (fun _ h => h.1)); replace HO_114001 := Aside0.mk (Kd.S_mono (Kd.S_keep (IsS79.apartS (show IsS79 w0 _ g s0_0 x1001_1 from spec_l20Book.calls_q0) (uf2_ HO_114001) (by decide)) hk (fun _ h => h.2)) (fun _ h => h.1)); replace BK106 := Aside0.mk (KeepBut.blk hk (g' := gb106) (o := .cells #[.slice none 0 0, .slice none 0 0] 26 (0, 0)) (uf0_ BK106) NB106_0.out (by simp)); replace BK113 := Aside0.mk (KeepBut.blk hk (g' := gb113) (o := .cells #[u114000, u114001] 26 (0, 0)) (uf0_ BK113) NB113_0.out (by simp)); replace HK := Aside0.mk (KeepBut.trans (spec_l20Book.calls_q1) hk (.inl rfl)); replace HB := Aside0.mk (hb); replace HI0 := Aside0.mk (hi); (try clear hb); (try clear hk hi); have hnb96 := NB113_106.out; have hnc96 := NB106_113.out; have hnb97 := NB113_0.out; have hnc97 := NB0_113.out; obtain ⟨hcz98_0, hcz98_1, hfz98_0, hfz98_1⟩ := blk2_ BK113; obtain ⟨Ao99, co99, eo99⟩ := Kd.R_slice HO_114000.out; subst eo99; have hnb100 := NB106_0.out; have hnc100 := NB0_106.out; obtain ⟨hcz101_0, hcz101_1, hfz101_0, hfz101_1⟩ := blk2_ BK106; obtain ⟨Ao102, co102, eo102⟩ := Kd.S_slice HO_114001.out; subst eo102))
       refine bodyPost_ret (results_cell_row rfl _ _ gb106 26 #[.slice Ao99 x114000_1.length co99, .slice Ao102 x114001_1.length co102] (0, 0) _ rfl (by (with_reducible repeat (first | refine blk_drewN ?_ _ | refine blk_drew ?_ | refine blk_alloc ?_ _)); refine blk_put (cs := #[.slice Ao99 x114000_1.length co99, .slice none 0 0]) ?_ 1 _ rfl; (with_reducible repeat (first | refine blk_drewN ?_ _ | refine blk_drew ?_ | refine blk_alloc ?_ _)); refine blk_put (cs := #[.slice none 0 0, .slice none 0 0]) ?_ 0 _ rfl; (with_reducible repeat (first | refine blk_drewN ?_ _ | refine blk_drew ?_ | refine blk_alloc ?_ _)); exact BK106.out) Try.underlying26 rfl (g0_)) rfl ?_
       exact ⟨_, _, g4_, by (with_reducible repeat (first | apply Kd.R_alloc | apply Kd.R_drewN | apply Kd.R_drew)); exact Kd.R_mono (Kd.R_far (p := ⟨gb106, 1, none⟩) (Kd.R_far (p := ⟨gb106, 0, none⟩) (Kd.R_types HO_114000.out BK106.out (by decide)) (fun _ hk => hk.2) (.slice Ao99 x114000_1.length co99)) (fun _ hk => hk.2) (.slice Ao102 x114001_1.length co102)) (fun _ hk => hk.1), Kd.S_V (by (with_reducible repeat (first | apply Kd.S_alloc | apply Kd.S_drewN | apply Kd.S_drew)); exact Kd.S_mono (Kd.S_far (p := ⟨gb106, 1, none⟩) (Kd.S_far (p := ⟨gb106, 0, none⟩) (Kd.S_types HO_114001.out BK106.out (by decide)) (fun _ hk => hk.2) (.slice Ao99 x114000_1.length co99)) (fun _ hk => hk.2) (.slice Ao102 x114001_1.length co102)) (fun _ hk => ⟨hk.1.1, hk.1.2⟩)), spec_l20Book.calls_q0, spec_l20Book.calls_q2, spec_l20Book.calls_q1⟩
  ·rw [if_neg c5] at H
   exact absurd H (by simp)
 ·rw [if_neg c4] at H
  exact absurd H (by simp)
end Go.Proofs.Ytigpmfoagkhaeaa.PU

namespace Go.Proofs.Ytigpmfoagkhaeaa.PU
open Go.RowKit Go.Proofs.YtigpmfoagkhaeaaW.PrintWords Go.Proofs.YtigpmfoagkhaeaaW.PrintLast Go.Proofs.YtigpmfoagkhaeaaW.PrintMore Go.Proofs.Ytigpmfoagkhaeaa.Qd
attribute [local go_sem] max2_int min2_int max_two min_two max_three min_three max_four min_four   -- for this text's walks alone
set_option linter.unusedVariables false
set_option linter.unusedSimpArgs false
def spec_l20Open.f (l0 : List Int) : Option (List Int × Int) := if (l0.length : Int) > 2000 then (if 2000 ≤ (l0.length : Int) then (some (l0.take 2000, 0)) else (none)) else (some (l0, 0))
theorem spec_l20Open.calls_q0 {p : Prop} (h : p := by repeat (first | (with_reducible first | exact HB.out | apply below_alloc | apply pw_below_drewN | apply below_drew1 | refine below_set ?_ GE157.out | refine below_set ?_ GE158.out) | exact HB.out)) : p := h
theorem spec_l20Open.calls_q1 {p : Prop} (h : p := by repeat (first | (with_reducible first | exact HBW.out | apply below_alloc | apply pw_below_drewN | apply below_drew1 | refine below_set ?_ GW157.out | refine below_set ?_ GW158.out) | exact HBW.out)) : p := h
set_option maxHeartbeats 8000000 in
set_option maxRecDepth 100000 in
theorem spec_l20Open.calls (A0 : Option Addr) (c0 : Nat) (l0 : List Int) (r1 : List Int) (r2 : Int) (w0 w : World) (hB : Below w0.heap.size w0 w) (hr0 : Kd.C (Kd.int .u8) w0 A0 l0.length l0) (hc0 : l0.length ≤ c0) (h : spec_l20Open.f l0 = some (r1, r2)) :
  Calls Try.prog 53 #[.slice A0 l0.length c0] w fun e w' => ∃ g_ : Nat, e = .returned (.pointer (some ⟨g_, 0, none⟩)) ∧ IsS79 w0 w' g_ r1 r2 ∧ Below w0.heap.size w0 w' ∧ Below w.heap.size w w' := by
 have hu79 := Try.underlying79
 have HR0 := Aside0.mk hr0
 have HC0 := Aside0.mk hc0
 clear hr0 hc0
 have HBW := Aside0.mk (Below.refl w.heap.size w)
 have HW0 := Aside0.mk hB.size
 have HB := Aside0.mk hB
 clear hB
 have H : (if (l0.length : Int) > 2000 then (if 2000 ≤ (l0.length : Int) then (some (l0.take 2000, 0)) else (none)) else (some (l0, 0))) = some (r1, r2) := h
 clear h
 by_cases c2 : (l0.length : Int) > 2000
 ·rw [if_pos c2] at H
  have c2b0 := decide_eq_true c2
  have c2b1 : decide (2000 < l0.length) = true := decide_eq_true (by omega)
  clear c2
  by_cases c3 : 2000 ≤ (l0.length : Int)
  ·rw [if_pos c3] at H
   have c3b0 := eq_true c3
   have c3b1 := decide_eq_true c3
   clear c3
   simp only [Option.some.injEq, Prod.mk.injEq] at H
   obtain ⟨rfl, rfl⟩ := H
   obtain ⟨i04, hi04, _, hsz4, _⟩ := info_parts info5
   obtain ⟨hcut4, hA4, hC4⟩ := print_take_of (P := Try.prog) (Value.int .u8) 0 22 5 .i64 Try.underlying22 hi04 hsz4 A0 c0 l0 2000 (by omega) (of_decide_eq_true (g1_)) HC0.out
   have HR156 := Aside0.mk (Kd.C_of_reads (h1 := fun _ => rfl) (hA4 _ (Kd.reads_of_C HR0.out)))
   have HC156 := Aside0.mk hC4
   clear hA4 hC4 hi04 hsz4
   go_enter Try.func53, Try.ntmps53
   go_wp2_with (first | ((with_reducible refine gate_dst (N := 10) rfl ?_); refine bx_ (N := 10) #[.slice A0 (l0.take 2000).length c0, .int .i64 0] 79 ?_; intro gb157 hg w5 hbox hb; replace HB := Aside0.mk (below_step (spec_l20Open.calls_q0) hb); have BK157 := Aside0.mk (hbox); have GW157 := Aside0.mk ((g85_ : w.heap.size ≤ gb157)); have GE157 := Aside0.mk ((Nat.le_trans HW0.out (g85_ : w.heap.size ≤ gb157) : w0.heap.size ≤ gb157)); replace HBW := Aside0.mk (below_step HBW.out hb); clear hb hbox hg))
   go_ret
   exact ⟨_, rfl, (show IsS79 w0 _ gb157 (l0.take 2000) 0 from ⟨_, _, uf0_ BK157, GE157.out, HR156.out⟩), spec_l20Open.calls_q0, spec_l20Open.calls_q1⟩
  ·rw [if_neg c3] at H
   exact absurd H (by simp)
 ·rw [if_neg c2] at H
  have c2b0 := decide_eq_false c2
  have c2b1 : decide (2000 < l0.length) = false := decide_eq_false (by omega)
  clear c2
  simp only [Option.some.injEq, Prod.mk.injEq] at H
  obtain ⟨rfl, rfl⟩ := H
  go_enter Try.func53, Try.ntmps53
  go_wp2_with (first | ((with_reducible refine gate_dst (N := 10) rfl ?_); refine bx_ (N := 10) #[.slice A0 l0.length c0, .int .i64 0] 79 ?_; intro gb158 hg w6 hbox hb; replace HB := Aside0.mk (below_step (spec_l20Open.calls_q0) hb); have BK158 := Aside0.mk (hbox); have GW158 := Aside0.mk ((g85_ : w.heap.size ≤ gb158)); have GE158 := Aside0.mk ((Nat.le_trans HW0.out (g85_ : w.heap.size ≤ gb158) : w0.heap.size ≤ gb158)); replace HBW := Aside0.mk (below_step HBW.out hb); clear hb hbox hg))
  go_ret
  exact ⟨_, rfl, (show IsS79 w0 _ gb158 l0 0 from ⟨_, _, uf0_ BK158, GE158.out, HR0.out⟩), spec_l20Open.calls_q0, spec_l20Open.calls_q1⟩
end Go.Proofs.Ytigpmfoagkhaeaa.PU

namespace Go.Proofs.Ytigpmfoagkhaeaa.PU
open Go.RowKit Go.Proofs.YtigpmfoagkhaeaaW.PrintWords Go.Proofs.YtigpmfoagkhaeaaW.PrintLast Go.Proofs.YtigpmfoagkhaeaaW.PrintMore Go.Proofs.Ytigpmfoagkhaeaa.Qd
attribute [local go_sem] max2_int min2_int max_two min_two max_three min_three max_four min_four   -- for this text's walks alone
set_option linter.unusedVariables false
set_option linter.unusedSimpArgs false
def spec_DrawNonePaid.f (k : Nat) (l0 : List Int) : Option (List Int × (List (List Int))) := (spec_l20Open.f l0).bind fun bt160 => ((spec_l20Book.f k bt160.1 bt160.2 9).bind fun bt163 => (some (bt163.1, bt163.2.1)))
theorem spec_DrawNonePaid.mono : ∀ a0 k, LeO (spec_DrawNonePaid.f k a0) (spec_DrawNonePaid.f (k + 1) a0) := by
 intro a0 k
 unfold spec_DrawNonePaid.f
 repeat' first
   | (with_reducible exact spec_l20Book.mono _ _ _ _)
   | (with_reducible exact LeO.refl _)
   | (with_reducible exact LeO.none _)
   | (with_reducible refine LeO.ite ?_ ?_)
   | (with_reducible refine LeO.bind ?_ (fun _ => ?_))
   | exact spec_l20Book.mono _ _ _ _
   | exact LeO.none _
   | refine LeO.ite ?_ ?_
   | refine LeO.bind ?_ (fun _ => ?_)
theorem spec_DrawNonePaid.calls_q0 {p : Prop} (h : p := by repeat (first | (with_reducible first | exact HB.out | apply below_alloc | apply pw_below_drewN | apply below_drew1 | refine below_set ?_ GE159.out | refine below_set ?_ (IsS79.ge HI162.out)) | exact HB.out)) : p := h
theorem spec_DrawNonePaid.calls_q1 {p : Prop} (h : p := by repeat (first | (with_reducible first | exact HI162.out | apply IsS79.alloc | apply IsS79.drewN | apply IsS79.drew | apply IsS79.set_1 | refine IsS79.far ?_ NB162_159.out _) | exact HI162.out)) : p := h
set_option maxHeartbeats 8000000 in
set_option maxRecDepth 100000 in
theorem spec_DrawNonePaid.calls (k : Nat) (A0 : Option Addr) (c0 : Nat) (l0 : List Int) (r1 : List Int) (r2 : List (List Int)) (w : World) (hr0 : Kd.C (Kd.int .u8) w A0 l0.length l0) (hc0 : l0.length ≤ c0) (h : spec_DrawNonePaid.f k l0 = some (r1, r2)) :
  Calls Try.prog 12 #[.slice A0 l0.length c0] w fun e w' => ∃ v0_ v1_ : Value, e = .returned (.agg #[v0_, v1_]) ∧ Kd.R (Kd.int .i64) 3 w' w.heap.size (fun k_ => (w.heap.size ≤ k_)) v0_ r1 ∧ Kd.V (Kd.slice 3 (Kd.int .i64)) 23 w' w.heap.size (fun k_ => (w.heap.size ≤ k_) ∧ some k_ ≠ (v0_ : Value).ownBlock) v1_ r2 ∧ Below w.heap.size w w' := by
 have hu26 := Try.underlying26
 have HR0 := Aside0.mk hr0
 have HC0 := Aside0.mk hc0
 clear hr0 hc0
 have HB := Aside0.mk (Below.refl w.heap.size w)
 have H : ((spec_l20Open.f l0).bind fun bt160 => ((spec_l20Book.f k bt160.1 bt160.2 9).bind fun bt163 => (some (bt163.1, bt163.2.1)))) = some (r1, r2) := h
 clear h
 replace H := Option.bind_eq_some_iff.mp H
 obtain ⟨⟨t160, t161⟩, A20, H⟩ := H
 replace H : ((spec_l20Book.f k t160 t161 9).bind fun bt163 => (some (bt163.1, bt163.2.1))) = some (r1, r2) := H
 have A2 := Aside0.mk A20
 clear A20
 replace H := Option.bind_eq_some_iff.mp H
 obtain ⟨⟨t163, t166, t169⟩, A30, H⟩ := H
 replace H : (some (t163, t166)) = some (r1, r2) := H
 have A3 := Aside0.mk A30
 clear A30
 simp only [Option.some.injEq, Prod.mk.injEq] at H
 obtain ⟨rfl, rfl⟩ := H
 go_enter Try.func12, Try.ntmps12
 go_wp2_with (first | ((with_reducible refine gate_dst (N := 2) rfl ?_); refine bx_ (N := 2) #[.slice none 0 0, .slice none 0 0] 26 ?_; intro gb159 hg w4 hbox hb; have BK159 := Aside0.mk (hbox); have GW159 := Aside0.mk ((by rw [hg]; exact (below_size (spec_DrawNonePaid.calls_q0)) : w.heap.size ≤ gb159)); have GE159 := Aside0.mk ((by rw [hg]; exact (below_size (spec_DrawNonePaid.calls_q0)) : w.heap.size ≤ gb159)); replace HB := Aside0.mk (below_step (spec_DrawNonePaid.calls_q0) hb); clear hb hbox hg) | ((with_reducible refine gate_callee (f := 53) rfl ?_); refine goesL_ (some 4) rfl rfl Try.func53 k_ rfl #[.slice A0 l0.length c0] rfl (g2_) ?_; (with_reducible refine (spec_l20Open.calls _ _ l0 t160 t161 w _ ?side1 ?side2 ?side3 A2.out).mono ?_); (case side1 => exact spec_DrawNonePaid.calls_q0); (case side2 => exact HR0.out); (case side3 => exact HC0.out); rintro e w5 ⟨g162, rfl, hi, hb, hb2⟩; refine ⟨_, rfl, ?_⟩; replace HB := Aside0.mk (hb); have HI162 := Aside0.mk (hi); have NB162_159 := Aside0.mk (IsS79.ne_blk hi (blk_below (g := gb159) (o := .cells #[.slice none 0 0, .slice none 0 0] 26 (0, 0)) (uf0_ BK159) hb2) (by decide)); have NB159_162 := Aside0.mk (Ne.symm (IsS79.ne_blk hi (blk_below (g := gb159) (o := .cells #[.slice none 0 0, .slice none 0 0] 26 (0, 0)) (uf0_ BK159) hb2) (by decide))); replace BK159 := Aside0.mk (blk_below (g := gb159) (o := .cells #[.slice none 0 0, .slice none 0 0] 26 (0, 0)) (uf0_ BK159) hb2); (try clear hb); (try clear hb2); (try clear hk); (try clear hi)) | ((with_reducible refine gate_callee (f := 52) rfl ?_); refine goesL_ (some 5) rfl rfl Try.func52 k_ rfl #[.pointer (some ⟨g162, 0, none⟩), .int .i64 9] rfl (g2_) ?_; (with_reducible refine (spec_l20Book.calls k g162 t160 t161 9 t163 t166 t169 w _ ?side1 ?side2 A3.out).mono ?_); (case side1 => exact spec_DrawNonePaid.calls_q1); (case side2 => exact spec_DrawNonePaid.calls_q0); rintro e w6 ⟨v164, v167, rfl, ho0, ho1, hi, hb, hk⟩; refine ⟨_, rfl, ?_⟩; have HO165 := Aside0.mk (Kd.R_lower (Kd.R_newM (M := fun k_ => (w.heap.size ≤ k_)) (Kd.R_mono (ok' := fun k_ => True) ho0 (fun _ hk_ => trivial)) (below_size (spec_DrawNonePaid.calls_q0)) (fun k_ h_ => h_)) (below_size (spec_DrawNonePaid.calls_q0))); have HO168 := Aside0.mk (Kd.V_lower (Kd.V_mono (ok' := fun k_ => (w.heap.size ≤ k_) ∧ some k_ ≠ (v164 : Value).ownBlock ∧ k_ ≠ gb159 ∧ k_ ≠ g162) ho1 (fun k_ hk_ => ⟨(Nat.le_trans (below_size (spec_DrawNonePaid.calls_q0)) hk_.1), hk_.2, (Kd.freshB (g := gb159) (o := .cells #[.slice none 0 0, .slice none 0 0] 26 (0, 0)) (uf0_ BK159) k_ hk_.1), (IsS79.fresh (spec_DrawNonePaid.calls_q1) k_ hk_.1)⟩)) (below_size (spec_DrawNonePaid.calls_q0))); replace BK159 := Aside0.mk (KeepBut.blk hk (g' := gb159) (o := .cells #[.slice none 0 0, .slice none 0 0] 26 (0, 0)) (uf0_ BK159) NB159_162.out (by simp)); replace HB := Aside0.mk (hb); replace HI162 := Aside0.mk (hi); (try clear hb); (try clear hb2); (try clear hk); (try clear hi); (try clear ho0); (try clear ho1); obtain ⟨Ao7, co7, eo7⟩ := Kd.R_slice HO165.out; subst eo7; have hnb8 := NB159_162.out; have hnc8 := NB162_159.out; obtain ⟨hcz9_0, hcz9_1, hfz9_0, hfz9_1⟩ := blk2_ BK159; obtain ⟨Ao10, co10, eo10⟩ := Kd.V_slice HO168.out; subst eo10))
 refine bodyPost_ret (results_cell_row rfl _ _ gb159 26 #[.slice Ao7 t163.length co7, .slice Ao10 t166.length co10] (0, 0) _ rfl (by (with_reducible repeat (first | refine blk_drewN ?_ _ | refine blk_drew ?_ | refine blk_alloc ?_ _)); refine blk_put (cs := #[.slice Ao7 t163.length co7, .slice none 0 0]) ?_ 1 _ rfl; (with_reducible repeat (first | refine blk_drewN ?_ _ | refine blk_drew ?_ | refine blk_alloc ?_ _)); refine blk_put (cs := #[.slice none 0 0, .slice none 0 0]) ?_ 0 _ rfl; (with_reducible repeat (first | refine blk_drewN ?_ _ | refine blk_drew ?_ | refine blk_alloc ?_ _)); exact BK159.out) Try.underlying26 rfl (g0_)) rfl ?_
 exact ⟨_, _, g4_, by (with_reducible repeat (first | apply Kd.R_alloc | apply Kd.R_drewN | apply Kd.R_drew)); exact Kd.R_mono (Kd.R_far (p := ⟨gb159, 1, none⟩) (Kd.R_far (p := ⟨gb159, 0, none⟩) (Kd.R_types HO165.out BK159.out (by decide)) (fun _ hk => hk.2) (.slice Ao7 t163.length co7)) (fun _ hk => hk.2) (.slice Ao10 t166.length co10)) (fun _ hk => hk.1.1), by (with_reducible repeat (first | apply Kd.V_alloc | apply Kd.V_drewN | apply Kd.V_drew)); exact Kd.V_mono (Kd.V_far (p := ⟨gb159, 1, none⟩) (Kd.V_far (p := ⟨gb159, 0, none⟩) (Kd.V_mono HO168.out (fun k_ hk => (⟨hk, hk.2.2.1⟩ : _ ∧ k_ ≠ gb159))) (fun _ hk => hk.2) (.slice Ao7 t163.length co7)) (fun _ hk => hk.2) (.slice Ao10 t166.length co10)) (fun _ hk => ⟨hk.1.1, hk.1.2.1⟩), spec_DrawNonePaid.calls_q0⟩
end Go.Proofs.Ytigpmfoagkhaeaa.PU

namespace Go.Proofs.Ytigpmfoagkhaeaa.PU
open Go.RowKit Go.Proofs.YtigpmfoagkhaeaaW.PrintWords Go.Proofs.YtigpmfoagkhaeaaW.PrintLast Go.Proofs.YtigpmfoagkhaeaaW.PrintMore Go.Proofs.Ytigpmfoagkhaeaa.Qd
attribute [local go_sem] max2_int min2_int max_two min_two max_three min_three max_four min_four   -- for this text's walks alone
set_option linter.unusedVariables false
set_option linter.unusedSimpArgs false
mutual
def impl_isBook.j0 : Nat → Int → Bool → List Int → List (List Int) → Option (Bool)
 | 0, _, _, _, _ => none
 | k + 1, x3, x23, x171000, x171001 => if x23 = true then (some false) else (impl_isBook.l0 k x3 x171001 (x171001.length : Int) 0 x171000 x171001)
def impl_isBook.l0 : Nat → Int → List (List Int) → Int → Int → List Int → List (List Int) → Option (Bool)
 | 0, _, _, _, _, _, _ => none
 | k + 1, x3, x25, x26, x27, x171000, x171001 => if x27 < x26 then (if 0 ≤ x27 then (if x27 < (x25.length : Int) then (if x27 < (x171000.length : Int) then (if (rd x171000 x27) < 0 then (impl_isBook.j2 k x3 (rd_L2 x25 x27) x25 x26 x27 true x171000 x171001) else (if (rd x171000 x27) > 20 then (impl_isBook.j2 k x3 (rd_L2 x25 x27) x25 x26 x27 true x171000 x171001) else (if ((rd_L2 x25 x27).length : Int) = x3 then (if x27 < ((rd_L2 x25 x27).length : Int) then (impl_isBook.j2 k x3 (rd_L2 x25 x27) x25 x26 x27 ((rd (rd_L2 x25 x27) x27) != 0) x171000 x171001) else (none)) else (impl_isBook.j2 k x3 (rd_L2 x25 x27) x25 x26 x27 true x171000 x171001)))) else (none)) else (none)) else (none)) else (some true)
def impl_isBook.j2 : Nat → Int → List Int → List (List Int) → Int → Int → Bool → List Int → List (List Int) → Option (Bool)
 | 0, _, _, _, _, _, _, _, _ => none
 | k + 1, x3, x5, x25, x26, x27, x58, x171000, x171001 => if x58 = true then (some false) else (impl_isBook.l1 k x3 x25 x26 x27 x5 (x5.length : Int) 0 x171000 x171001)
def impl_isBook.l1 : Nat → Int → List (List Int) → Int → Int → List Int → Int → Int → List Int → List (List Int) → Option (Bool)
 | 0, _, _, _, _, _, _, _, _, _ => none
 | k + 1, x3, x25, x26, x27, x59, x60, x61, x171000, x171001 => if x61 < x60 then (if 0 ≤ x61 then (if x61 < (x59.length : Int) then (if (rd x59 x61) < 0 then (some false) else (if (rd x59 x61) > 9 then (some false) else (impl_isBook.l1 k x3 x25 x26 x27 x59 x60 (wrap64 (x61 + 1)) x171000 x171001))) else (none)) else (none)) else (impl_isBook.l0 k x3 x25 x26 (wrap64 (x27 + 1)) x171000 x171001)
end
def impl_isBook.f (k : Nat) (l0_0 : List Int) (l0_1 : List (List Int)) : Option (Bool) := if (l0_0.length : Int) < 1 then (impl_isBook.j0 k (l0_0.length : Int) true l0_0 l0_1) else (if (l0_0.length : Int) > 4 then (impl_isBook.j0 k (l0_0.length : Int) true l0_0 l0_1) else (impl_isBook.j0 k (l0_0.length : Int) ((l0_1.length : Int) != (l0_0.length : Int)) l0_0 l0_1))
theorem impl_isBook.mono_l : ∀ k, (∀ y0 y1 y2 y3, LeO (impl_isBook.j0 k y0 y1 y2 y3) (impl_isBook.j0 (k + 1) y0 y1 y2 y3)) ∧ (∀ y0 y1 y2 y3 y4 y5, LeO (impl_isBook.l0 k y0 y1 y2 y3 y4 y5) (impl_isBook.l0 (k + 1) y0 y1 y2 y3 y4 y5)) ∧ (∀ y0 y1 y2 y3 y4 y5 y6 y7, LeO (impl_isBook.j2 k y0 y1 y2 y3 y4 y5 y6 y7) (impl_isBook.j2 (k + 1) y0 y1 y2 y3 y4 y5 y6 y7)) ∧ (∀ y0 y1 y2 y3 y4 y5 y6 y7 y8, LeO (impl_isBook.l1 k y0 y1 y2 y3 y4 y5 y6 y7 y8) (impl_isBook.l1 (k + 1) y0 y1 y2 y3 y4 y5 y6 y7 y8))
 | 0 => ⟨fun _ _ _ _ r h => by simp [impl_isBook.j0] at h, fun _ _ _ _ _ _ r h => by simp [impl_isBook.l0] at h, fun _ _ _ _ _ _ _ _ r h => by simp [impl_isBook.j2] at h, fun _ _ _ _ _ _ _ _ _ r h => by simp [impl_isBook.l1] at h⟩
 | k + 1 => by
  obtain ⟨ih0, ih1, ih2, ih3⟩ := impl_isBook.mono_l k
  refine ⟨?_, ?_, ?_, ?_⟩
  ·intro y0 y1 y2 y3
   unfold impl_isBook.j0
   repeat' first
   | (with_reducible exact ih0 _ _ _ _)
   | (with_reducible exact ih1 _ _ _ _ _ _)
   | (with_reducible exact ih2 _ _ _ _ _ _ _ _)
   | (with_reducible exact ih3 _ _ _ _ _ _ _ _ _)
   | (with_reducible exact LeO.refl _)
   | (with_reducible exact LeO.none _)
   | (with_reducible refine LeO.ite ?_ ?_)
   | (with_reducible refine LeO.bind ?_ (fun _ => ?_))
   | exact ih0 _ _ _ _
   | exact ih1 _ _ _ _ _ _
   | exact ih2 _ _ _ _ _ _ _ _
   | exact ih3 _ _ _ _ _ _ _ _ _
   | exact LeO.none _
   | refine LeO.ite ?_ ?_
   | refine LeO.bind ?_ (fun _ => ?_)
  ·intro y0 y1 y2 y3 y4 y5
   unfold impl_isBook.l0
   repeat' first
   | (with_reducible exact ih0 _ _ _ _)
   | (with_reducible exact ih1 _ _ _ _ _ _)
   | (with_reducible exact ih2 _ _ _ _ _ _ _ _)
   | (with_reducible exact ih3 _ _ _ _ _ _ _ _ _)
   | (with_reducible exact LeO.refl _)
   | (with_reducible exact LeO.none _)
   | (with_reducible refine LeO.ite ?_ ?_)
   | (with_reducible refine LeO.bind ?_ (fun _ => ?_))
   | exact ih0 _ _ _ _
   | exact ih1 _ _ _ _ _ _
   | exact ih2 _ _ _ _ _ _ _ _
   | exact ih3 _ _ _ _ _ _ _ _ _
   | exact LeO.none _
   | refine LeO.ite ?_ ?_
   | refine LeO.bind ?_ (fun _ => ?_)
  ·intro y0 y1 y2 y3 y4 y5 y6 y7
   unfold impl_isBook.j2
   repeat' first
   | (with_reducible exact ih0 _ _ _ _)
   | (with_reducible exact ih1 _ _ _ _ _ _)
   | (with_reducible exact ih2 _ _ _ _ _ _ _ _)
   | (with_reducible exact ih3 _ _ _ _ _ _ _ _ _)
   | (with_reducible exact LeO.refl _)
   | (with_reducible exact LeO.none _)
   | (with_reducible refine LeO.ite ?_ ?_)
   | (with_reducible refine LeO.bind ?_ (fun _ => ?_))
   | exact ih0 _ _ _ _
   | exact ih1 _ _ _ _ _ _
   | exact ih2 _ _ _ _ _ _ _ _
   | exact ih3 _ _ _ _ _ _ _ _ _
   | exact LeO.none _
   | refine LeO.ite ?_ ?_
   | refine LeO.bind ?_ (fun _ => ?_)
  ·intro y0 y1 y2 y3 y4 y5 y6 y7 y8
   unfold impl_isBook.l1
   repeat' first
   | (with_reducible exact ih0 _ _ _ _)
   | (with_reducible exact ih1 _ _ _ _ _ _)
   | (with_reducible exact ih2 _ _ _ _ _ _ _ _)
   | (with_reducible exact ih3 _ _ _ _ _ _ _ _ _)
   | (with_reducible exact LeO.refl _)
   | (with_reducible exact LeO.none _)
   | (with_reducible refine LeO.ite ?_ ?_)
   | (with_reducible refine LeO.bind ?_ (fun _ => ?_))
   | exact ih0 _ _ _ _
   | exact ih1 _ _ _ _ _ _
   | exact ih2 _ _ _ _ _ _ _ _
   | exact ih3 _ _ _ _ _ _ _ _ _
   | exact LeO.none _
   | refine LeO.ite ?_ ?_
   | refine LeO.bind ?_ (fun _ => ?_)
theorem impl_isBook.mono : ∀ a0 a1 k, LeO (impl_isBook.f k a0 a1) (impl_isBook.f (k + 1) a0 a1) := by
 intro a0 a1 k
 obtain ⟨ih0, ih1, ih2, ih3⟩ := impl_isBook.mono_l k
 unfold impl_isBook.f
 repeat' first
   | (with_reducible exact ih0 _ _ _ _)
   | (with_reducible exact ih1 _ _ _ _ _ _)
   | (with_reducible exact ih2 _ _ _ _ _ _ _ _)
   | (with_reducible exact ih3 _ _ _ _ _ _ _ _ _)
   | (with_reducible exact LeO.refl _)
   | (with_reducible exact LeO.none _)
   | (with_reducible refine LeO.ite ?_ ?_)
   | (with_reducible refine LeO.bind ?_ (fun _ => ?_))
   | exact ih0 _ _ _ _
   | exact ih1 _ _ _ _ _ _
   | exact ih2 _ _ _ _ _ _ _ _
   | exact ih3 _ _ _ _ _ _ _ _ _
   | exact LeO.none _
   | refine LeO.ite ?_ ?_
   | refine LeO.bind ?_ (fun _ => ?_)
theorem impl_isBook.calls_q0 {p : Prop} (h : p := by repeat (first | (with_reducible first | exact HB.out | apply below_alloc | apply pw_below_drewN | apply below_drew1 | refine below_set ?_ GE170.out) | exact HB.out)) : p := h
set_option maxHeartbeats 8000000 in
set_option maxRecDepth 100000 in
theorem impl_isBook.calls (k : Nat) (A0_0 : Option Addr) (c0_0 : Nat) (l0_0 : List Int) (A0_1 : Option Addr) (c0_1 : Nat) (l0_1 : List (List Int)) (r : Bool) (w : World) (hr0_0 : Kd.C (Kd.int .i64) w A0_0 l0_0.length l0_0) (hc0_0 : l0_0.length ≤ c0_0) (hr0_1 : Kd.C (Kd.slice 3 (Kd.int .i64)) w A0_1 l0_1.length l0_1) (hc0_1 : l0_1.length ≤ c0_1) (h : impl_isBook.f k l0_0 l0_1 = some r) :
  Calls Try.prog 54 #[.agg #[.slice A0_0 l0_0.length c0_0, .slice A0_1 l0_1.length c0_1]] w fun e w' => e = .returned (.bool r) ∧ Below w.heap.size w w' := by
 have hu26 := Try.underlying26
 have HR0_0 := Aside0.mk hr0_0
 have HC0_0 := Aside0.mk hc0_0
 clear hr0_0 hc0_0
 have HR0_1 := Aside0.mk hr0_1
 have HC0_1 := Aside0.mk hc0_1
 clear hr0_1 hc0_1
 have HB := Aside0.mk (Below.refl w.heap.size w)
 have H : (if (l0_0.length : Int) < 1 then (impl_isBook.j0 k (l0_0.length : Int) true l0_0 l0_1) else (if (l0_0.length : Int) > 4 then (impl_isBook.j0 k (l0_0.length : Int) true l0_0 l0_1) else (impl_isBook.j0 k (l0_0.length : Int) ((l0_1.length : Int) != (l0_0.length : Int)) l0_0 l0_1))) = some r := h
 clear h
 have HC2 := Aside0.mk H
 clear H
 go_enter Try.func54, Try.ntmps54
 go_upto_region 2 with (first | ((with_reducible refine gate_dst (N := 1) rfl ?_); (try (refine gate_guard (by rfl) ?_; dsimp only)); refine bx_ (N := 1) #[.slice A0_0 l0_0.length c0_0, .slice A0_1 l0_1.length c0_1] 26 ?_; intro gb170 hg w3 hbox hb; have BK170 := Aside0.mk (hbox); have GW170 := Aside0.mk ((by rw [hg]; exact (below_size (impl_isBook.calls_q0)) : w.heap.size ≤ gb170)); have GE170 := Aside0.mk ((by rw [hg]; exact (below_size (impl_isBook.calls_q0)) : w.heap.size ≤ gb170)); replace HB := Aside0.mk (below_step (impl_isBook.calls_q0) hb); clear hb hbox hg; obtain ⟨hcz4_0, hcz4_1, hfz4_0, hfz4_1⟩ := blk2_ BK170))
 (try simp only [Act.put, List.setIfInBounds_toArray, List.set_cons_zero, List.set_cons_succ])
 go_cut [23] (fun v23 wc => ∃ (kq : Nat) (x23_1 : Bool), v23 = .bool x23_1 ∧ Aside0 (impl_isBook.j0 kq (l0_0.length : Int) x23_1 l0_0 l0_1 = some r) ∧ Aside0 (kq ≤ k) ∧ Aside0 (wc.heap[gb170]? = some (.cells #[(.slice A0_0 l0_0.length c0_0), (.slice A0_1 l0_1.length c0_1)] 26 (0, 0))) ∧ Aside0 (Below w.heap.size w wc))
 case first =>
  have H := HC2.out
  clear HC2
  by_cases c5 : (l0_0.length : Int) < 1
  ·rw [if_pos c5] at H
   have c5b0 := decide_eq_true c5
   have c5b1 : decide (l0_0.length < 1) = true := decide_eq_true (by omega)
   clear c5
   (first | rw [c5b0] | (simp only [i64_w, i32_w]; rw [c5b0]) | skip)
   have H' := Aside0.mk H
   clear H
   go_wp2
   go_meet
   case rel => exact ⟨_, (true), (g3_), H', ⟨g13_⟩, ⟨uf0_ BK170⟩, ⟨impl_isBook.calls_q0⟩⟩
  ·rw [if_neg c5] at H
   have c5b0 := decide_eq_false c5
   have c5b1 : decide (l0_0.length < 1) = false := decide_eq_false (by omega)
   clear c5
   (first | rw [c5b0] | (simp only [i64_w, i32_w]; rw [c5b0]) | skip)
   by_cases c6 : (l0_0.length : Int) > 4
   ·rw [if_pos c6] at H
    have c6b0 := decide_eq_true c6
    have c6b1 : decide (4 < l0_0.length) = true := decide_eq_true (by omega)
    clear c6
    have H' := Aside0.mk H
    clear H
    go_wp2
    go_meet
    case rel => exact ⟨_, (true), (g3_), H', ⟨g13_⟩, ⟨uf0_ BK170⟩, ⟨impl_isBook.calls_q0⟩⟩
   ·rw [if_neg c6] at H
    have c6b0 := decide_eq_false c6
    have c6b1 : decide (4 < l0_0.length) = false := decide_eq_false (by omega)
    clear c6
    have H' := Aside0.mk H
    clear H
    obtain ⟨hcz7_0, hcz7_1, hfz7_0, hfz7_1⟩ := blk2_ BK170
    go_wp2
    go_meet
    case rel => exact ⟨_, (((l0_1.length : Int) != (l0_0.length : Int))), (g3_), H', ⟨g13_⟩, ⟨uf0_ BK170⟩, ⟨impl_isBook.calls_q0⟩⟩
 case rest =>
  clear HC2
  try clear p2
  try clear c5
  try clear c5b0
  try clear c5b1
  try clear c6
  try clear c6b0
  try clear c6b1
  try clear hcz4_0
  try clear hcz4_1
  try clear hcz7_0
  try clear hcz7_1
  try clear hfz4_0
  try clear hfz4_1
  try clear hfz7_0
  try clear hfz7_1
  obtain ⟨kq, x23_1, rfl, HA, HJ1, BK170, HB⟩ := hcut
  cases kq with
  | zero => exact absurd HA.out (by simp [impl_isBook.j0])
  | succ kj1 =>
   have H := HA.out
   clear HA
   simp only [impl_isBook.j0] at H
   by_cases c8 : x23_1 = true
   ·subst c8
    replace H := ifp_ H
    obtain rfl := Option.some.inj H
    go_wp2
    go_ret
    exact ⟨g4_, impl_isBook.calls_q0⟩
   ·replace c8 := Bool.eq_false_iff.mpr c8
    subst c8
    replace H := ifn_ H
    have H' := Aside0.mk H
    clear H
    obtain ⟨hcz9_0, hcz9_1, hfz9_0, hfz9_1⟩ := blk2_ BK170
    go_wp2
    go_loopg [27] kj1 (fun kq v27 w' => ∃ (x27_2 : Int), v27 = .int .i64 x27_2 ∧ Aside0 (impl_isBook.l0 kq (l0_0.length : Int) l0_1 (l0_1.length : Int) x27_2 l0_0 l0_1 = some r) ∧ Aside0 (kq ≤ kj1) ∧ Aside0 (w'.heap[gb170]? = some (.cells #[(.slice A0_0 l0_0.length c0_0), (.slice A0_1 l0_1.length c0_1)] 26 (0, 0))) ∧ Aside0 (Below w.heap.size w w'))
    case atStart => exact ⟨(0), (g3_), H', ⟨Nat.le_refl _⟩, ⟨uf0_ BK170⟩, ⟨impl_isBook.calls_q0⟩⟩
    case round =>
     clear H'
     try clear p2
     try clear c5
     try clear c5b0
     try clear c5b1
     try clear c6
     try clear c6b0
     try clear c6b1
     try clear c8
     try clear hcz4_0
     try clear hcz4_1
     try clear hcz7_0
     try clear hcz7_1
     try clear hcz9_0
     try clear hcz9_1
     try clear hfz4_0
     try clear hfz4_1
     try clear hfz7_0
     try clear hfz7_1
     try clear hfz9_0
     try clear hfz9_1
     try clear p2
     obtain ⟨x27_2, rfl, HA, HK2, BK170, HB⟩ := hrel
     cases gk with
     | zero => exact absurd HA.out (by simp [impl_isBook.l0])
     | succ k2 =>
      have H := HA.out
      clear HA
      simp only [impl_isBook.l0] at H
      by_cases c10 : x27_2 < (l0_1.length : Int)
      ·rw [if_pos c10] at H
       have c10b0 := decide_eq_true c10
       clear c10
       by_cases c11 : 0 ≤ x27_2
       ·rw [if_pos c11] at H
        have c11b0 := decide_eq_true c11
        clear c11
        by_cases c12 : x27_2 < (l0_1.length : Int)
        ·rw [if_pos c12] at H
         have c12b0 := decide_eq_true c12
         clear c12
         have HC13 := Aside0.mk H
         clear H
         have p171 : 0 ≤ (x27_2 : Int) := of_decide_eq_true (g1_)
         have q171 : x27_2 < (l0_1.length : Int) := of_decide_eq_true (g1_)
         obtain ⟨ad171, A171_0, c171_0, e171, hx171_0, hl171_0, hi171_0⟩ := at_L2 HR0_1.out x27_2 p171 q171
         cases e171
         replace hx171_0 := cl_ HB hx171_0
         have HR171_0 := Aside0.mk hi171_0
         have HC171_0 := Aside0.mk hl171_0
         clear hi171_0 hl171_0
         replace p171 := eq_true p171
         replace q171 := eq_true q171
         go_upto_region 7 with (fail)
         go_cut [58] (fun v58 wc => ∃ (kq : Nat) (x58_12 : Bool), v58 = .bool x58_12 ∧ Aside0 (impl_isBook.j2 kq (l0_0.length : Int) (rd_L2 l0_1 x27_2) l0_1 (l0_1.length : Int) x27_2 x58_12 l0_0 l0_1 = some r) ∧ Aside0 (kq ≤ k2) ∧ Aside0 (wc.heap[gb170]? = some (.cells #[(.slice A0_0 l0_0.length c0_0), (.slice (some ad171) l0_1.length c0_1)] 26 (0, 0))) ∧ Aside0 (Below w.heap.size w wc))
         case first =>
          have H := HC13.out
          clear HC13
          by_cases c14 : x27_2 < (l0_0.length : Int)
          ·rw [if_pos c14] at H
           have c14b0 := decide_eq_true c14
           clear c14
           (first | rw [c14b0] | (simp only [i64_w, i32_w]; rw [c14b0]) | skip)
           by_cases c15 : (rd l0_0 x27_2) < 0
           ·rw [if_pos c15] at H
            have c15b0 := decide_eq_true c15
            clear c15
            have H' := Aside0.mk H
            clear H
            obtain ⟨hcz16_0, hcz16_1, hfz16_0, hfz16_1⟩ := blk2_ BK170
            have p172 : 0 ≤ (x27_2 : Int) := of_decide_eq_true (g1_)
            have q172 : x27_2 < (l0_0.length : Int) := of_decide_eq_true (g1_)
            obtain ⟨ad172, e172, hx172_0⟩ := Kd.at_int HR0_0.out x27_2 p172 q172
            cases e172
            replace hx172_0 := cl_ HB hx172_0
            replace p172 := eq_true p172
            replace q172 := eq_true q172
            go_wp2
            go_meet
            case rel => exact ⟨_, (true), (g3_), H', ⟨g47_⟩, ⟨uf0_ BK170⟩, ⟨impl_isBook.calls_q0⟩⟩
           ·rw [if_neg c15] at H
            have c15b0 := decide_eq_false c15
            clear c15
            by_cases c17 : (rd l0_0 x27_2) > 20
            ·rw [if_pos c17] at H
             have c17b0 := decide_eq_true c17
             clear c17
             have H' := Aside0.mk H
             clear H
             obtain ⟨hcz18_0, hcz18_1, hfz18_0, hfz18_1⟩ := blk2_ BK170
             have p172 : 0 ≤ (x27_2 : Int) := of_decide_eq_true (g1_)
             have q172 : x27_2 < (l0_0.length : Int) := of_decide_eq_true (g1_)
             obtain ⟨ad172, e172, hx172_0⟩ := Kd.at_int HR0_0.out x27_2 p172 q172
             cases e172
             replace hx172_0 := cl_ HB hx172_0
             replace p172 := eq_true p172
             replace q172 := eq_true q172
             have p173 : 0 ≤ (x27_2 : Int) := of_decide_eq_true (g1_)
             have q173 : x27_2 < (l0_0.length : Int) := of_decide_eq_true (g1_)
             obtain ⟨ad173, e173, hx173_0⟩ := Kd.at_int HR0_0.out x27_2 p173 q173
             obtain rfl : ad172 = ad173 := (by injection e173)
             replace hx173_0 := cl_ HB hx173_0
             replace p173 := eq_true p173
             replace q173 := eq_true q173
             go_wp2
             go_meet
             case rel => exact ⟨_, (true), (g3_), H', ⟨g47_⟩, ⟨uf0_ BK170⟩, ⟨impl_isBook.calls_q0⟩⟩
            ·rw [if_neg c17] at H
             have c17b0 := decide_eq_false c17
             clear c17
             by_cases c19 : ((rd_L2 l0_1 x27_2).length : Int) = (l0_0.length : Int)
             ·rw [if_pos c19] at H
              have c19b0 : (((rd_L2 l0_1 x27_2).length : Int) == (l0_0.length : Int)) = true := beq_iff_eq.mpr c19
              have c19b1 : (((rd_L2 l0_1 x27_2).length : Int) != (l0_0.length : Int)) = false := bne_eq_false_iff_eq.mpr c19
              have c19b2 : ((rd_L2 l0_1 x27_2).length == l0_0.length) = true := by first | simpa using c19 | (simp at c19 ⊢; omega)
              clear c19
              by_cases c20 : x27_2 < ((rd_L2 l0_1 x27_2).length : Int)
              ·rw [if_pos c20] at H
               have c20b0 := decide_eq_true c20
               clear c20
               have H' := Aside0.mk H
               clear H
               obtain ⟨hcz21_0, hcz21_1, hfz21_0, hfz21_1⟩ := blk2_ BK170
               have p172 : 0 ≤ (x27_2 : Int) := of_decide_eq_true (g1_)
               have q172 : x27_2 < (l0_0.length : Int) := of_decide_eq_true (g1_)
               obtain ⟨ad172, e172, hx172_0⟩ := Kd.at_int HR0_0.out x27_2 p172 q172
               cases e172
               replace hx172_0 := cl_ HB hx172_0
               replace p172 := eq_true p172
               replace q172 := eq_true q172
               have p173 : 0 ≤ (x27_2 : Int) := of_decide_eq_true (g1_)
               have q173 : x27_2 < (l0_0.length : Int) := of_decide_eq_true (g1_)
               obtain ⟨ad173, e173, hx173_0⟩ := Kd.at_int HR0_0.out x27_2 p173 q173
               obtain rfl : ad172 = ad173 := (by injection e173)
               replace hx173_0 := cl_ HB hx173_0
               replace p173 := eq_true p173
               replace q173 := eq_true q173
               have p174 : 0 ≤ (x27_2 : Int) := of_decide_eq_true (g1_)
               have q174 : x27_2 < ((rd_L2 l0_1 x27_2).length : Int) := of_decide_eq_true (g1_)
               obtain ⟨ad174, e174, hx174_0⟩ := Kd.at_int HR171_0.out x27_2 p174 q174
               cases e174
               replace hx174_0 := cl_ HB hx174_0
               replace p174 := eq_true p174
               replace q174 := eq_true q174
               go_wp2
               go_meet
               case rel => exact ⟨_, (((rd (rd_L2 l0_1 x27_2) x27_2) != 0)), (g3_), H', ⟨g47_⟩, ⟨uf0_ BK170⟩, ⟨impl_isBook.calls_q0⟩⟩
              ·rw [if_neg c20] at H
               exact absurd H (by simp)
             ·rw [if_neg c19] at H
              have c19b0 : (((rd_L2 l0_1 x27_2).length : Int) == (l0_0.length : Int)) = false := beq_eq_false_iff_ne.mpr c19
              have c19b1 : (((rd_L2 l0_1 x27_2).length : Int) != (l0_0.length : Int)) = true := bne_iff_ne.mpr c19
              have c19b2 : ((rd_L2 l0_1 x27_2).length == l0_0.length) = false := by first | simpa using c19 | (simp at c19 ⊢; omega)
              have H' := Aside0.mk H
              clear H
              obtain ⟨hcz22_0, hcz22_1, hfz22_0, hfz22_1⟩ := blk2_ BK170
              have p172 : 0 ≤ (x27_2 : Int) := of_decide_eq_true (g1_)
              have q172 : x27_2 < (l0_0.length : Int) := of_decide_eq_true (g1_)
              obtain ⟨ad172, e172, hx172_0⟩ := Kd.at_int HR0_0.out x27_2 p172 q172
              cases e172
              replace hx172_0 := cl_ HB hx172_0
              replace p172 := eq_true p172
              replace q172 := eq_true q172
              have p173 : 0 ≤ (x27_2 : Int) := of_decide_eq_true (g1_)
              have q173 : x27_2 < (l0_0.length : Int) := of_decide_eq_true (g1_)
              obtain ⟨ad173, e173, hx173_0⟩ := Kd.at_int HR0_0.out x27_2 p173 q173
              obtain rfl : ad172 = ad173 := (by injection e173)
              replace hx173_0 := cl_ HB hx173_0
              replace p173 := eq_true p173
              replace q173 := eq_true q173
              go_wp2
              go_meet
              case rel => exact ⟨_, (true), (g3_), H', ⟨g47_⟩, ⟨uf0_ BK170⟩, ⟨impl_isBook.calls_q0⟩⟩
          ·rw [if_neg c14] at H
           exact absurd H (by simp)
         case rest =>
          clear HC13
          try clear c1
          try clear p1
          try clear q1
          try clear hx1
          try clear c2
          try clear p2
          try clear c5
          try clear c5b0
          try clear c5b1
          try clear c6
          try clear c6b0
          try clear c6b1
          try clear c8
          try clear c10
          try clear c10b0
          try clear c11
          try clear c11b0
          try clear c12
          try clear c12b0
          try clear c14
          try clear c14b0
          try clear c15
          try clear c15b0
          try clear c17
          try clear c17b0
          try clear p17
          try clear q17
          try clear hx17
          try clear c19
          try clear c19b0
          try clear c19b1
          try clear c19b2
          try clear c20
          try clear c20b0
          try clear hcz16_0
          try clear hcz16_1
          try clear hcz18_0
          try clear hcz18_1
          try clear hcz21_0
          try clear hcz21_1
          try clear hcz22_0
          try clear hcz22_1
          try clear hcz4_0
          try clear hcz4_1
          try clear hcz7_0
          try clear hcz7_1
          try clear hcz9_0
          try clear hcz9_1
          try clear hfz16_0
          try clear hfz16_1
          try clear hfz18_0
          try clear hfz18_1
          try clear hfz21_0
          try clear hfz21_1
          try clear hfz22_0
          try clear hfz22_1
          try clear hfz4_0
          try clear hfz4_1
          try clear hfz7_0
          try clear hfz7_1
          try clear hfz9_0
          try clear hfz9_1
          try clear hx171_0
          try clear hx172_0
          try clear hx173_0
          try clear hx174_0
          try clear p171
          try clear p172
          try clear p173
          try clear p174
          try clear p2
          try clear q171
          try clear q172
          try clear q173
          try clear q174
          obtain ⟨kq, x58_12, rfl, HA, HJ12, BK170, HB⟩ := hcut
          cases kq with
          | zero => exact absurd HA.out (by simp [impl_isBook.j2])
          | succ kj12 =>
           have H := HA.out
           clear HA
           simp only [impl_isBook.j2] at H
           by_cases c23 : x58_12 = true
           ·subst c23
            replace H := ifp_ H
            obtain rfl := Option.some.inj H
            go_wp2
            go_ret
            exact ⟨g4_, impl_isBook.calls_q0⟩
           ·replace c23 := Bool.eq_false_iff.mpr c23
            subst c23
            replace H := ifn_ H
            have H' := Aside0.mk H
            clear H
            go_wp2
            go_loopg [61] kj12 (fun kq v61 w' => ∃ (x61_4 : Int), v61 = .int .i64 x61_4 ∧ Aside0 (impl_isBook.l1 kq (l0_0.length : Int) l0_1 (l0_1.length : Int) x27_2 (rd_L2 l0_1 x27_2) ((rd_L2 l0_1 x27_2).length : Int) x61_4 l0_0 l0_1 = some r) ∧ Aside0 (kq ≤ kj12) ∧ Aside0 (w'.heap[gb170]? = some (.cells #[(.slice A0_0 l0_0.length c0_0), (.slice (some ad171) l0_1.length c0_1)] 26 (0, 0))) ∧ Aside0 (Below w.heap.size w w'))
            case atStart => exact ⟨(0), (g3_), H', ⟨Nat.le_refl _⟩, ⟨uf0_ BK170⟩, ⟨impl_isBook.calls_q0⟩⟩
            case round =>
             clear H'
             try clear c1
             try clear p1
             try clear q1
             try clear hx1
             try clear c2
             try clear p2
             try clear c5
             try clear c5b0
             try clear c5b1
             try clear c6
             try clear c6b0
             try clear c6b1
             try clear c8
             try clear c10
             try clear c10b0
             try clear c11
             try clear c11b0
             try clear c12
             try clear c12b0
             try clear c14
             try clear c14b0
             try clear c15
             try clear c15b0
             try clear c17
             try clear c17b0
             try clear p17
             try clear q17
             try clear hx17
             try clear c19
             try clear c19b0
             try clear c19b1
             try clear c19b2
             try clear c20
             try clear c20b0
             try clear c23
             try clear hcz16_0
             try clear hcz16_1
             try clear hcz18_0
             try clear hcz18_1
             try clear hcz21_0
             try clear hcz21_1
             try clear hcz22_0
             try clear hcz22_1
             try clear hcz4_0
             try clear hcz4_1
             try clear hcz7_0
             try clear hcz7_1
             try clear hcz9_0
             try clear hcz9_1
             try clear hfz16_0
             try clear hfz16_1
             try clear hfz18_0
             try clear hfz18_1
             try clear hfz21_0
             try clear hfz21_1
             try clear hfz22_0
             try clear hfz22_1
             try clear hfz4_0
             try clear hfz4_1
             try clear hfz7_0
             try clear hfz7_1
             try clear hfz9_0
             try clear hfz9_1
             try clear hx171_0
             try clear hx172_0
             try clear hx173_0
             try clear hx174_0
             try clear p1
             try clear p17
             try clear p171
             try clear p172
             try clear p173
             try clear p174
             try clear p2
             try clear q1
             try clear q17
             try clear q171
             try clear q172
             try clear q173
             try clear q174
             obtain ⟨x61_4, rfl, HA, HK4, BK170, HB⟩ := hrel
             cases gk with
             | zero => exact absurd HA.out (by simp [impl_isBook.l1])
             | succ k4 =>
              have H := HA.out
              clear HA
              simp only [impl_isBook.l1] at H
              by_cases c24 : x61_4 < ((rd_L2 l0_1 x27_2).length : Int)
              ·rw [if_pos c24] at H
               have c24b0 := decide_eq_true c24
               clear c24
               by_cases c25 : 0 ≤ x61_4
               ·rw [if_pos c25] at H
                have c25b0 := decide_eq_true c25
                clear c25
                by_cases c26 : x61_4 < ((rd_L2 l0_1 x27_2).length : Int)
                ·rw [if_pos c26] at H
                 have c26b0 := decide_eq_true c26
                 clear c26
                 by_cases c27 : (rd (rd_L2 l0_1 x27_2) x61_4) < 0
                 ·rw [if_pos c27] at H
                  have c27b0 := decide_eq_true c27
                  clear c27
                  obtain rfl := Option.some.inj H
                  have p175 : 0 ≤ (x61_4 : Int) := of_decide_eq_true (g1_)
                  have q175 : x61_4 < ((rd_L2 l0_1 x27_2).length : Int) := of_decide_eq_true (g1_)
                  obtain ⟨ad175, e175, hx175_0⟩ := Kd.at_int HR171_0.out x61_4 p175 q175
                  cases e175
                  replace hx175_0 := cl_ HB hx175_0
                  replace p175 := eq_true p175
                  replace q175 := eq_true q175
                  go_wp2
                  go_ret
                  exact ⟨g4_, impl_isBook.calls_q0⟩
                 ·rw [if_neg c27] at H
                  have c27b0 := decide_eq_false c27
                  clear c27
                  by_cases c28 : (rd (rd_L2 l0_1 x27_2) x61_4) > 9
                  ·rw [if_pos c28] at H
                   have c28b0 := decide_eq_true c28
                   clear c28
                   obtain rfl := Option.some.inj H
                   have p175 : 0 ≤ (x61_4 : Int) := of_decide_eq_true (g1_)
                   have q175 : x61_4 < ((rd_L2 l0_1 x27_2).length : Int) := of_decide_eq_true (g1_)
                   obtain ⟨ad175, e175, hx175_0⟩ := Kd.at_int HR171_0.out x61_4 p175 q175
                   cases e175
                   replace hx175_0 := cl_ HB hx175_0
                   replace p175 := eq_true p175
                   replace q175 := eq_true q175
                   go_wp2
                   go_ret
                   exact ⟨g4_, impl_isBook.calls_q0⟩
                  ·rw [if_neg c28] at H
                   have c28b0 := decide_eq_false c28
                   clear c28
                   have H' := Aside0.mk H
                   clear H
                   have p175 : 0 ≤ (x61_4 : Int) := of_decide_eq_true (g1_)
                   have q175 : x61_4 < ((rd_L2 l0_1 x27_2).length : Int) := of_decide_eq_true (g1_)
                   obtain ⟨ad175, e175, hx175_0⟩ := Kd.at_int HR171_0.out x61_4 p175 q175
                   cases e175
                   replace hx175_0 := cl_ HB hx175_0
                   replace p175 := eq_true p175
                   replace q175 := eq_true q175
                   go_wp2
                   go_roundg k4
                   case measure => have := HJ1.out; have := HK2.out; have := HJ12.out; have := HK4.out; omega
                   case rel => exact ⟨(wrap64 (x61_4 + 1)), (g3_), H', ⟨by have := HJ1.out; have := HK2.out; have := HJ12.out; have := HK4.out; omega⟩, ⟨uf0_ BK170⟩, ⟨impl_isBook.calls_q0⟩⟩
                ·rw [if_neg c26] at H
                 exact absurd H (by simp)
               ·rw [if_neg c25] at H
                exact absurd H (by simp)
              ·rw [if_neg c24] at H
               have c24b0 := decide_eq_false c24
               clear c24
               have H' := Aside0.mk H
               clear H
               go_wp2
               go_roundg k4
               case measure => have := HJ1.out; have := HK2.out; have := HJ12.out; have := HK4.out; omega
               case rel => exact ⟨(wrap64 (x27_2 + 1)), (g3_), H', ⟨by have := HJ1.out; have := HK2.out; have := HJ12.out; have := HK4.out; omega⟩, ⟨uf0_ BK170⟩, ⟨impl_isBook.calls_q0⟩⟩
        ·rw [if_neg c12] at H
         exact absurd H (by simp)
       ·rw [if_neg c11] at H
        exact absurd H (by simp)
      ·rw [if_neg c10] at H
       have c10b0 := decide_eq_false c10
       clear c10
       obtain rfl := Option.some.inj H
       go_wp2
       go_ret
       exact ⟨g4_, impl_isBook.calls_q0⟩
end Go.Proofs.Ytigpmfoagkhaeaa.PU

namespace Go.Proofs.Ytigpmfoagkhaeaa.PU
open Go.RowKit Go.Proofs.YtigpmfoagkhaeaaW.PrintWords Go.Proofs.YtigpmfoagkhaeaaW.PrintLast Go.Proofs.YtigpmfoagkhaeaaW.PrintMore Go.Proofs.Ytigpmfoagkhaeaa.Qd
attribute [local go_sem] max2_int min2_int max_two min_two max_three min_three max_four min_four   -- for this text's walks alone
set_option linter.unusedVariables false
set_option linter.unusedSimpArgs false
def impl_whole.f (a0 : Int) : Option (Int × Int) := some (a0, 1)
theorem impl_whole.calls_q0 {p : Prop} (h : p := by repeat (first | (with_reducible first | exact HB.out | apply below_alloc | apply pw_below_drewN | apply below_drew1 | refine below_set ?_ GE176.out) | exact HB.out)) : p := h
set_option maxHeartbeats 8000000 in
set_option maxRecDepth 100000 in
theorem impl_whole.calls (a0 : Int) (r1 : Int) (r2 : Int) (w : World) (h : impl_whole.f a0 = some (r1, r2)) :
  Calls Try.prog 89 #[.int .i64 a0] w fun e w' => e = .returned (.agg #[.int .i64 r1, .int .i64 r2]) ∧ Below w.heap.size w w' := by
 have hu36 := Try.underlying36
 have HB := Aside0.mk (Below.refl w.heap.size w)
 have H : (some (a0, 1)) = some (r1, r2) := h
 clear h
 simp only [Option.some.injEq, Prod.mk.injEq] at H
 obtain ⟨rfl, rfl⟩ := H
 go_enter Try.func89, Try.ntmps89
 go_wp2_with (first | ((with_reducible refine gate_dst (N := 2) rfl ?_); refine bx_ (N := 2) #[.int .i64 0, .int .i64 0] 36 ?_; intro gb176 hg w2 hbox hb; have BK176 := Aside0.mk (hbox); have GW176 := Aside0.mk ((by rw [hg]; exact (below_size (impl_whole.calls_q0)) : w.heap.size ≤ gb176)); have GE176 := Aside0.mk ((by rw [hg]; exact (below_size (impl_whole.calls_q0)) : w.heap.size ≤ gb176)); replace HB := Aside0.mk (below_step (impl_whole.calls_q0) hb); clear hb hbox hg; obtain ⟨hcz3_0, hcz3_1, hfz3_0, hfz3_1⟩ := blk2_ BK176))
 refine bodyPost_ret (results_cell_row rfl _ _ gb176 36 #[.int .i64 a0, .int .i64 1] (0, 0) _ rfl (by (with_reducible repeat (first | refine blk_drewN ?_ _ | refine blk_drew ?_ | refine blk_alloc ?_ _)); refine blk_put (cs := #[.int .i64 a0, .int .i64 0]) ?_ 1 _ rfl; (with_reducible repeat (first | refine blk_drewN ?_ _ | refine blk_drew ?_ | refine blk_alloc ?_ _)); refine blk_put (cs := #[.int .i64 0, .int .i64 0]) ?_ 0 _ rfl; (with_reducible repeat (first | refine blk_drewN ?_ _ | refine blk_drew ?_ | refine blk_alloc ?_ _)); exact BK176.out) Try.underlying36 rfl (g0_)) rfl ?_
 exact ⟨g4_, impl_whole.calls_q0⟩
end Go.Proofs.Ytigpmfoagkhaeaa.PU

namespace Go.Proofs.Ytigpmfoagkhaeaa.PU
open Go.RowKit Go.Proofs.YtigpmfoagkhaeaaW.PrintWords Go.Proofs.YtigpmfoagkhaeaaW.PrintLast Go.Proofs.YtigpmfoagkhaeaaW.PrintMore Go.Proofs.Ytigpmfoagkhaeaa.Qd
attribute [local go_sem] max2_int min2_int max_two min_two max_three min_three max_four min_four   -- for this text's walks alone
set_option linter.unusedVariables false
set_option linter.unusedSimpArgs false
def impl_nonePaid.l0 : Nat → List (S36) → Int → Int → Option ((List (S36)))
 | 0, _, _, _ => none
 | k + 1, x3, x7, x8 => if x8 < x7 then ((impl_whole.f 0).bind fun bt181 => (if x3.length < 8796093022208 then (impl_nonePaid.l0 k (x3 ++ [(⟨bt181.1, bt181.2⟩ : S36)]) x7 (wrap64 (x8 + 1))) else (none))) else (some x3)
def impl_nonePaid.f (k : Nat) (l0_0 : List Int) (l0_1 : List (List Int)) : Option ((List (S36))) := impl_nonePaid.l0 k (([] : List (S36))) (l0_0.length : Int) 0
theorem impl_nonePaid.mono_l : ∀ k, (∀ y0 y1 y2, LeO (impl_nonePaid.l0 k y0 y1 y2) (impl_nonePaid.l0 (k + 1) y0 y1 y2))
 | 0 => fun _ _ _ r h => by simp [impl_nonePaid.l0] at h
 | k + 1 => by
  have ih0 := impl_nonePaid.mono_l k
  ·intro y0 y1 y2
   unfold impl_nonePaid.l0
   repeat' first
   | (with_reducible exact ih0 _ _ _)
   | (with_reducible exact LeO.refl _)
   | (with_reducible exact LeO.none _)
   | (with_reducible refine LeO.ite ?_ ?_)
   | (with_reducible refine LeO.bind ?_ (fun _ => ?_))
   | exact ih0 _ _ _
   | exact LeO.none _
   | refine LeO.ite ?_ ?_
   | refine LeO.bind ?_ (fun _ => ?_)
theorem impl_nonePaid.mono : ∀ a0 a1 k, LeO (impl_nonePaid.f k a0 a1) (impl_nonePaid.f (k + 1) a0 a1) := by
 intro a0 a1 k
 have ih0 := impl_nonePaid.mono_l k
 unfold impl_nonePaid.f
 repeat' first
   | (with_reducible exact ih0 _ _ _)
   | (with_reducible exact LeO.refl _)
   | (with_reducible exact LeO.none _)
   | (with_reducible refine LeO.ite ?_ ?_)
   | (with_reducible refine LeO.bind ?_ (fun _ => ?_))
   | exact ih0 _ _ _
   | exact LeO.none _
   | refine LeO.ite ?_ ?_
   | refine LeO.bind ?_ (fun _ => ?_)
theorem impl_nonePaid.calls_q0 {p : Prop} (h : p := by repeat (first | (with_reducible first | exact HB.out | apply below_alloc | apply pw_below_drewN | apply below_drew1 | refine below_set ?_ GE177.out) | exact HB.out)) : p := h
set_option maxHeartbeats 8000000 in
set_option maxRecDepth 100000 in
theorem impl_nonePaid.calls (k : Nat) (A0_0 : Option Addr) (c0_0 : Nat) (l0_0 : List Int) (A0_1 : Option Addr) (c0_1 : Nat) (l0_1 : List (List Int)) (r : List (S36)) (w : World) (hr0_0 : Kd.C (Kd.int .i64) w A0_0 l0_0.length l0_0) (hc0_0 : l0_0.length ≤ c0_0) (hr0_1 : Kd.C (Kd.slice 3 (Kd.int .i64)) w A0_1 l0_1.length l0_1) (hc0_1 : l0_1.length ≤ c0_1) (h : impl_nonePaid.f k l0_0 l0_1 = some r) :
  Calls Try.prog 55 #[.agg #[.slice A0_0 l0_0.length c0_0, .slice A0_1 l0_1.length c0_1]] w fun e w' => ∃ v0_ : Value, e = .returned (v0_) ∧ Kd.R k36 36 w' w.heap.size (fun _ => True) v0_ r ∧ Below w.heap.size w w' := by
 have hu26 := Try.underlying26
 have HR0_0 := Aside0.mk hr0_0
 have HC0_0 := Aside0.mk hc0_0
 clear hr0_0 hc0_0
 have HR0_1 := Aside0.mk hr0_1
 have HC0_1 := Aside0.mk hc0_1
 clear hr0_1 hc0_1
 have HB := Aside0.mk (Below.refl w.heap.size w)
 have H : (impl_nonePaid.l0 k (([] : List (S36))) (l0_0.length : Int) 0) = some r := h
 clear h
 obtain ⟨y178, hy178⟩ : ∃ y_ : List (S36), y_ = (([] : List (S36))) := ⟨_, rfl⟩
 replace H : (impl_nonePaid.l0 k y178 (l0_0.length : Int) 0) = some r := by first | (rw [hy178]; with_reducible exact H) | (have H2_ := (Option.bind_some _ _).symm.trans H; rw [hy178]; with_reducible exact H2_) | (have H2_ := (Option.bind_some _ _).symm.trans H; with_reducible exact H2_) | with_reducible exact H | (rw [hy178]; exact H) | exact H
 have Ny178 := Aside0.mk hy178
 clear hy178
 have H' := Aside0.mk H
 clear H
 go_enter Try.func55, Try.ntmps55
 go_wp2_with (first | ((with_reducible refine gate_dst (N := 1) rfl ?_); refine bx_ (N := 1) #[.slice A0_0 l0_0.length c0_0, .slice A0_1 l0_1.length c0_1] 26 ?_; intro gb177 hg w2 hbox hb; have BK177 := Aside0.mk (hbox); have GW177 := Aside0.mk ((by rw [hg]; exact (below_size (impl_nonePaid.calls_q0)) : w.heap.size ≤ gb177)); have GE177 := Aside0.mk ((by rw [hg]; exact (below_size (impl_nonePaid.calls_q0)) : w.heap.size ≤ gb177)); replace HB := Aside0.mk (below_step (impl_nonePaid.calls_q0) hb); clear hb hbox hg) | ((with_reducible refine gate_dst (N := 4) rfl ?_); refine Kd.R_lit k36 _ 36 ?hg (N := 4) ?hd (xs := ([] : List (S36))) (inner := []) (ok := fun _ => True) (okp := fun _ => True) ?hr ?hp (fun _ hk => hk) trivial (Below.refl _ _) (Nat.le_refl _) (by simp) ?_; (case hd => rfl); (case hg => rfl); (case hr => first | (go_simp; done) | (go_simp; rfl)); (case hp => exact (Reps.none _ _)); intro v179 w3 ho4 hb hg_ hnew_; clear hg_ hnew_; (first | rw [← Ny178.out] at ho4 | (simp only [Int.reduceToNat] at ho4; rw [← Ny178.out] at ho4)); have HO180 := Aside0.mk (Kd.R_lower ho4 (below_size (impl_nonePaid.calls_q0))); replace BK177 := Aside0.mk (blk_below (g := gb177) (o := .cells #[.slice A0_0 l0_0.length c0_0, .slice A0_1 l0_1.length c0_1] 26 (0, 0)) (uf0_ BK177) hb); replace HB := Aside0.mk (below_step (impl_nonePaid.calls_q0) hb); clear hb ho4; obtain ⟨hcz5_0, hcz5_1, hfz5_0, hfz5_1⟩ := blk2_ BK177))
 go_loopg [3, 8] k (fun kq v3 v8 w' => ∃ (x3_1 : List (S36)) (x8_1 : Int), v8 = .int .i64 x8_1 ∧ Aside0 (impl_nonePaid.l0 kq x3_1 (l0_0.length : Int) x8_1 = some r) ∧ Aside0 (kq ≤ k) ∧ Aside0 (Kd.R k36 36 w' w.heap.size (fun _ => True) v3 x3_1) ∧ Aside0 (w'.heap[gb177]? = some (.cells #[(.slice A0_0 l0_0.length c0_0), (.slice A0_1 l0_1.length c0_1)] 26 (0, 0))) ∧ Aside0 (Below w.heap.size w w'))
 case atStart => exact ⟨(y178), (0), (g3_), H', ⟨Nat.le_refl _⟩, ⟨uf1_ HO180⟩, ⟨uf0_ BK177⟩, ⟨impl_nonePaid.calls_q0⟩⟩
 case round =>
  clear H'
  try clear p2
  try clear c5
  try clear hcz5_0
  try clear hcz5_1
  try clear hfz5_0
  try clear hfz5_1
  obtain ⟨x3_1, x8_1, rfl, HA, HK1, HO_3, BK177, HB⟩ := hrel
  cases gk with
  | zero => exact absurd HA.out (by simp [impl_nonePaid.l0])
  | succ k1 =>
   have H := HA.out
   clear HA
   simp only [impl_nonePaid.l0] at H
   by_cases c6 : x8_1 < (l0_0.length : Int)
   ·rw [if_pos c6] at H
    have c6b0 := decide_eq_true c6
    clear c6
    replace H := Option.bind_eq_some_iff.mp H
    obtain ⟨⟨t181, t182⟩, A70, H⟩ := H
    replace H : (if x3_1.length < 8796093022208 then (impl_nonePaid.l0 k1 (x3_1 ++ [(⟨t181, t182⟩ : S36)]) (l0_0.length : Int) (wrap64 (x8_1 + 1))) else (none)) = some r := H
    have A7 := Aside0.mk A70
    clear A70
    by_cases c8 : x3_1.length < 8796093022208
    ·rw [if_pos c8] at H
     have LMc8 := Aside0.mk c8
     clear c8
     obtain ⟨y183, hy183⟩ : ∃ y_ : List (S36), y_ = (x3_1 ++ [(⟨t181, t182⟩ : S36)]) := ⟨_, rfl⟩
     replace H : (impl_nonePaid.l0 k1 y183 (l0_0.length : Int) (wrap64 (x8_1 + 1))) = some r := by first | (rw [hy183]; with_reducible exact H) | (have H2_ := (Option.bind_some _ _).symm.trans H; rw [hy183]; with_reducible exact H2_) | (have H2_ := (Option.bind_some _ _).symm.trans H; with_reducible exact H2_) | with_reducible exact H | (rw [hy183]; exact H) | exact H
     have Ny183 := Aside0.mk hy183
     clear hy183
     have H' := Aside0.mk H
     clear H
     go_wp2_with (first | ((with_reducible refine gate_callee (f := 89) rfl ?_); refine goesL_ (some 11) rfl rfl Try.func89 k_ rfl #[.int .i64 0] rfl (g2_) ?_; (with_reducible refine (impl_whole.calls 0 t181 t182 _ A7.out).mono ?_); rintro e w9 ⟨rfl, hb⟩; refine ⟨_, rfl, ?_⟩; replace HO_3 := Aside0.mk (Kd.R_below (uf1_ HO_3) hb); replace BK177 := Aside0.mk (blk_below (g := gb177) (o := .cells #[.slice A0_0 l0_0.length c0_0, .slice A0_1 l0_1.length c0_1] 26 (0, 0)) (uf0_ BK177) hb); replace HB := Aside0.mk (below_step (impl_nonePaid.calls_q0) hb); (try clear hb); (try clear hk hi)) | ((with_reducible refine gate_builtin (b := .append) (xs := #[.tmp 10, .tmp 12]) rfl ?_); at_builtin; refine Kd.R_append k36 (w0 := w) w.heap.size rfl (.tmp 10) (.tmp 12) 28 36 (.agg #[(.int .i64 0), (.int .i64 0)]) 16 rfl Try.underlying28 info36 rfl (by decide) (by omega) u3 x3_1 (⟨t181, t182⟩ : S36) [.int .i64 t181, .int .i64 t182] (fun _ => True) (fun _ => False) rfl rfl ?aP (fun _ hk => hk.elim) ?aF ?aO ?aB ?aS ?aL ?_; (case aP => exact k36_mkM _ _ _ (⟨t181, t182⟩ : S36)); (case aB => exact (impl_nonePaid.calls_q0)); (case aF => exact (fun _ _ => trivial)); (case aO => exact (uf1_ HO_3)); (case aS => exact (below_size (impl_nonePaid.calls_q0))); (case aL => have := LMc8.out; omega); intro v184 w10 ho hb hg hat; rw [← Ny183.out] at ho; replace BK177 := Aside0.mk (blk_grown (g := gb177) (o := .cells #[.slice A0_0 l0_0.length c0_0, .slice A0_1 l0_1.length c0_1] 26 (0, 0)) (uf0_ BK177) hg (Kd.R_ne HO_3.out BK177.out (by decide))); replace HB := Aside0.mk (hb); have HO185 := Aside0.mk (ho); clear HO_3; clear ho hb hg hat))
     go_roundg k1
     case measure => have := HK1.out; omega
     case rel => exact ⟨(y183), (wrap64 (x8_1 + 1)), (g3_), H', ⟨g9_⟩, ⟨uf1_ HO185⟩, ⟨uf0_ BK177⟩, ⟨impl_nonePaid.calls_q0⟩⟩
    ·rw [if_neg c8] at H
     exact absurd H (by simp)
   ·rw [if_neg c6] at H
    have c6b0 := decide_eq_false c6
    clear c6
    obtain rfl := Option.some.inj H
    go_wp2
    go_ret
    exact ⟨_, g4_, uf1_ HO_3, impl_nonePaid.calls_q0⟩
end Go.Proofs.Ytigpmfoagkhaeaa.PU

namespace Go.Proofs.Ytigpmfoagkhaeaa.PU
open Go.RowKit Go.Proofs.YtigpmfoagkhaeaaW.PrintWords Go.Proofs.YtigpmfoagkhaeaaW.PrintLast Go.Proofs.YtigpmfoagkhaeaaW.PrintMore Go.Proofs.Ytigpmfoagkhaeaa.Qd
attribute [local go_sem] max2_int min2_int max_two min_two max_three min_three max_four min_four   -- for this text's walks alone
set_option linter.unusedVariables false
set_option linter.unusedSimpArgs false
def impl_NonePaid.f (k : Nat) (l0_0 : List Int) (l0_1 : List (List Int)) : Option ((List (S36))) := (impl_isBook.f k l0_0 l0_1).bind fun t187 => (if t187 = true then ((impl_nonePaid.f k l0_0 l0_1).bind fun t188 => (some t188)) else (some ([] : List (S36))))
theorem impl_NonePaid.mono : ∀ a0 a1 k, LeO (impl_NonePaid.f k a0 a1) (impl_NonePaid.f (k + 1) a0 a1) := by
 intro a0 a1 k
 unfold impl_NonePaid.f
 repeat' first
   | (with_reducible exact impl_isBook.mono _ _ _)
   | (with_reducible exact impl_nonePaid.mono _ _ _)
   | (with_reducible exact LeO.refl _)
   | (with_reducible exact LeO.none _)
   | (with_reducible refine LeO.ite ?_ ?_)
   | (with_reducible refine LeO.bind ?_ (fun _ => ?_))
   | exact impl_isBook.mono _ _ _
   | exact impl_nonePaid.mono _ _ _
   | exact LeO.none _
   | refine LeO.ite ?_ ?_
   | refine LeO.bind ?_ (fun _ => ?_)
theorem impl_NonePaid.calls_q0 {p : Prop} (h : p := by repeat (first | (with_reducible first | exact HB.out | apply below_alloc | apply pw_below_drewN | apply below_drew1 | refine below_set ?_ GE186.out) | exact HB.out)) : p := h
set_option maxHeartbeats 8000000 in
set_option maxRecDepth 100000 in
theorem impl_NonePaid.calls (k : Nat) (A0_0 : Option Addr) (c0_0 : Nat) (l0_0 : List Int) (A0_1 : Option Addr) (c0_1 : Nat) (l0_1 : List (List Int)) (r : List (S36)) (w : World) (hr0_0 : Kd.C (Kd.int .i64) w A0_0 l0_0.length l0_0) (hc0_0 : l0_0.length ≤ c0_0) (hr0_1 : Kd.C (Kd.slice 3 (Kd.int .i64)) w A0_1 l0_1.length l0_1) (hc0_1 : l0_1.length ≤ c0_1) (h : impl_NonePaid.f k l0_0 l0_1 = some r) :
  Calls Try.prog 13 #[.agg #[.slice A0_0 l0_0.length c0_0, .slice A0_1 l0_1.length c0_1]] w fun e w' => ∃ v0_ : Value, e = .returned (v0_) ∧ Kd.R k36 36 w' w.heap.size (fun _ => True) v0_ r ∧ Below w.heap.size w w' := by
 have hu26 := Try.underlying26
 have HR0_0 := Aside0.mk hr0_0
 have HC0_0 := Aside0.mk hc0_0
 clear hr0_0 hc0_0
 have HR0_1 := Aside0.mk hr0_1
 have HC0_1 := Aside0.mk hc0_1
 clear hr0_1 hc0_1
 have HB := Aside0.mk (Below.refl w.heap.size w)
 have H : ((impl_isBook.f k l0_0 l0_1).bind fun t187 => (if t187 = true then ((impl_nonePaid.f k l0_0 l0_1).bind fun t188 => (some t188)) else (some ([] : List (S36))))) = some r := h
 clear h
 obtain ⟨t187, A2, H⟩ := bind_ H
 by_cases c3 : t187 = true
 ·subst c3
  replace H := ifp_ H
  obtain ⟨t188, A4, H⟩ := bind_ H
  obtain rfl := Option.some.inj H
  go_enter Try.func13, Try.ntmps13
  go_wp2_with (first | ((with_reducible refine gate_dst (N := 1) rfl ?_); refine bx_ (N := 1) #[.slice A0_0 l0_0.length c0_0, .slice A0_1 l0_1.length c0_1] 26 ?_; intro gb186 hg w5 hbox hb; have BK186 := Aside0.mk (hbox); have GW186 := Aside0.mk ((g86_ : w.heap.size ≤ gb186)); have GE186 := Aside0.mk ((g86_ : w.heap.size ≤ gb186)); replace HB := Aside0.mk (below_step (impl_NonePaid.calls_q0) hb); clear hb hbox hg; obtain ⟨hcz6_0, hcz6_1, hfz6_0, hfz6_1⟩ := blk2_ BK186) | ((with_reducible refine gate_callee (f := 54) rfl ?_); refine goesL_ (some 4) rfl rfl Try.func54 k_ rfl #[.agg #[.slice A0_0 l0_0.length c0_0, .slice A0_1 l0_1.length c0_1]] rfl (g2_) ?_; (with_reducible refine (impl_isBook.calls k _ _ l0_0 _ _ l0_1 true _ ?side1 ?side2 ?side3 ?side4 A2.out).mono ?_); (case side1 => exact uf4_ HR0_0); (case side2 => exact HC0_0.out); (case side3 => exact uf4_ HR0_1); (case side4 => exact HC0_1.out); rintro e w7 ⟨rfl, hb⟩; refine ⟨_, rfl, ?_⟩; replace BK186 := Aside0.mk (blk_below (g := gb186) (o := .cells #[.slice A0_0 l0_0.length c0_0, .slice A0_1 l0_1.length c0_1] 26 (0, 0)) (uf0_ BK186) hb); replace HB := Aside0.mk (below_step (impl_NonePaid.calls_q0) hb); (try clear hb); (try clear hk hi); obtain ⟨hcz8_0, hcz8_1, hfz8_0, hfz8_1⟩ := blk2_ BK186) | ((with_reducible refine gate_callee (f := 55) rfl ?_); refine goesL_ (some 7) rfl rfl Try.func55 k_ rfl #[.agg #[.slice A0_0 l0_0.length c0_0, .slice A0_1 l0_1.length c0_1]] rfl (g2_) ?_; (with_reducible refine (impl_nonePaid.calls k _ _ l0_0 _ _ l0_1 t188 _ ?side1 ?side2 ?side3 ?side4 A4.out).mono ?_); (case side1 => exact uf4_ HR0_0); (case side2 => exact HC0_0.out); (case side3 => exact uf4_ HR0_1); (case side4 => exact HC0_1.out); rintro e w9 ⟨v189, rfl, ho0, hb⟩; refine ⟨_, rfl, ?_⟩; have HO190 := Aside0.mk (Kd.R_lower ho0 (below_size (impl_NonePaid.calls_q0))); replace BK186 := Aside0.mk (blk_below (g := gb186) (o := .cells #[.slice A0_0 l0_0.length c0_0, .slice A0_1 l0_1.length c0_1] 26 (0, 0)) (uf0_ BK186) hb); replace HB := Aside0.mk (below_step (impl_NonePaid.calls_q0) hb); (try clear hb); (try clear hk hi); (try clear ho0)))
  go_ret
  exact ⟨_, g4_, uf1_ HO190, impl_NonePaid.calls_q0⟩
 ·replace c3 := Bool.eq_false_iff.mpr c3
  subst c3
  replace H := ifn_ H
  obtain rfl := Option.some.inj H
  go_enter Try.func13, Try.ntmps13
  go_wp2_with (first | ((with_reducible refine gate_dst (N := 1) rfl ?_); refine bx_ (N := 1) #[.slice A0_0 l0_0.length c0_0, .slice A0_1 l0_1.length c0_1] 26 ?_; intro gb186 hg w10 hbox hb; have BK186 := Aside0.mk (hbox); have GW186 := Aside0.mk ((g86_ : w.heap.size ≤ gb186)); have GE186 := Aside0.mk ((g86_ : w.heap.size ≤ gb186)); replace HB := Aside0.mk (below_step (impl_NonePaid.calls_q0) hb); clear hb hbox hg; obtain ⟨hcz11_0, hcz11_1, hfz11_0, hfz11_1⟩ := blk2_ BK186) | ((with_reducible refine gate_callee (f := 54) rfl ?_); refine goesL_ (some 4) rfl rfl Try.func54 k_ rfl #[.agg #[.slice A0_0 l0_0.length c0_0, .slice A0_1 l0_1.length c0_1]] rfl (g2_) ?_; (with_reducible refine (impl_isBook.calls k _ _ l0_0 _ _ l0_1 false _ ?side1 ?side2 ?side3 ?side4 A2.out).mono ?_); (case side1 => exact uf4_ HR0_0); (case side2 => exact HC0_0.out); (case side3 => exact uf4_ HR0_1); (case side4 => exact HC0_1.out); rintro e w12 ⟨rfl, hb⟩; refine ⟨_, rfl, ?_⟩; replace BK186 := Aside0.mk (blk_below (g := gb186) (o := .cells #[.slice A0_0 l0_0.length c0_0, .slice A0_1 l0_1.length c0_1] 26 (0, 0)) (uf0_ BK186) hb); replace HB := Aside0.mk (below_step (impl_NonePaid.calls_q0) hb); (try clear hb); (try clear hk hi)))
  go_ret
  exact ⟨_, g4_, g29_, impl_NonePaid.calls_q0⟩
end Go.Proofs.Ytigpmfoagkhaeaa.PU

namespace Go.Proofs.Ytigpmfoagkhaeaa.PU
open Go.RowKit Go.Proofs.YtigpmfoagkhaeaaW.PrintWords Go.Proofs.YtigpmfoagkhaeaaW.PrintLast Go.Proofs.YtigpmfoagkhaeaaW.PrintMore Go.Proofs.Ytigpmfoagkhaeaa.Qd
attribute [local go_sem] max2_int min2_int max_two min_two max_three min_three max_four min_four   -- for this text's walks alone
set_option linter.unusedVariables false
set_option linter.unusedSimpArgs false
theorem eqA36 (d : Nat) (w : World) (x0 y0 : Int) (x1 y1 : Int) :
  (Op.equalIn (d + 2) 36 (.agg #[.int .i64 x0, .int .i64 x1]) (.agg #[.int .i64 y0, .int .i64 y1])).run Try.prog w = .ok (x0 == y0 && (x1 == y1)) w := by
 refine eqA_of Try.underlying36 (g0_) ?_
 refine eqf_cons (by rfl) (by go_simp; rfl) (by go_simp; rfl) (by go_simp) ?_
 exact eqf_last (by rfl) (by go_simp; rfl) (by go_simp; rfl) (by go_simp)
end Go.Proofs.Ytigpmfoagkhaeaa.PU

namespace Go.Proofs.Ytigpmfoagkhaeaa.PU
open Go.RowKit Go.Proofs.YtigpmfoagkhaeaaW.PrintWords Go.Proofs.YtigpmfoagkhaeaaW.PrintLast Go.Proofs.YtigpmfoagkhaeaaW.PrintMore Go.Proofs.Ytigpmfoagkhaeaa.Qd
attribute [local go_sem] max2_int min2_int max_two min_two max_three min_three max_four min_four   -- for this text's walks alone
set_option linter.unusedVariables false
set_option linter.unusedSimpArgs false
attribute [local go_sem high] eqA36
def laws_samePays.l0 : Nat → List (S36) → List (S36) → Int → Option (Bool)
 | 0, _, _, _ => none
 | k + 1, x0, x1, x5 => if x5 < (x0.length : Int) then (if 0 ≤ x5 then (if x5 < (x1.length : Int) then (if (!(((rd_T36 x0 x5).f0) == ((rd_T36 x1 x5).f0)) || (!(((rd_T36 x0 x5).f1) == ((rd_T36 x1 x5).f1)))) = true then (some false) else (laws_samePays.l0 k x0 x1 (wrap64 (x5 + 1)))) else (none)) else (none)) else (some true)
def laws_samePays.f (k : Nat) (l0 : List (S36)) (l1 : List (S36)) : Option (Bool) := if (l0.length : Int) = (l1.length : Int) then (laws_samePays.l0 k l0 l1 0) else (some false)
theorem laws_samePays.mono_l : ∀ k, (∀ y0 y1 y2, LeO (laws_samePays.l0 k y0 y1 y2) (laws_samePays.l0 (k + 1) y0 y1 y2))
 | 0 => fun _ _ _ r h => by simp [laws_samePays.l0] at h
 | k + 1 => by
  have ih0 := laws_samePays.mono_l k
  ·intro y0 y1 y2
   unfold laws_samePays.l0
   repeat' first
   | (with_reducible exact ih0 _ _ _)
   | (with_reducible exact LeO.refl _)
   | (with_reducible exact LeO.none _)
   | (with_reducible refine LeO.ite ?_ ?_)
   | (with_reducible refine LeO.bind ?_ (fun _ => ?_))
   | exact ih0 _ _ _
   | exact LeO.none _
   | refine LeO.ite ?_ ?_
   | refine LeO.bind ?_ (fun _ => ?_)
theorem laws_samePays.mono : ∀ a0 a1 k, LeO (laws_samePays.f k a0 a1) (laws_samePays.f (k + 1) a0 a1) := by
 intro a0 a1 k
 have ih0 := laws_samePays.mono_l k
 unfold laws_samePays.f
 repeat' first
   | (with_reducible exact ih0 _ _ _)
   | (with_reducible exact LeO.refl _)
   | (with_reducible exact LeO.none _)
   | (with_reducible refine LeO.ite ?_ ?_)
   | (with_reducible refine LeO.bind ?_ (fun _ => ?_))
   | exact ih0 _ _ _
   | exact LeO.none _
   | refine LeO.ite ?_ ?_
   | refine LeO.bind ?_ (fun _ => ?_)
set_option maxHeartbeats 8000000 in
set_option maxRecDepth 100000 in
theorem laws_samePays.calls (k : Nat) (A0 : Option Addr) (c0 : Nat) (l0 : List (S36)) (A1 : Option Addr) (c1 : Nat) (l1 : List (S36)) (r : Bool) (w : World) (hr0 : Kd.C k36 w A0 l0.length l0) (hc0 : l0.length ≤ c0) (hr1 : Kd.C k36 w A1 l1.length l1) (hc1 : l1.length ≤ c1) (h : laws_samePays.f k l0 l1 = some r) :
  Calls Try.prog 14 #[.slice A0 l0.length c0, .slice A1 l1.length c1] w fun e w' => e = .returned (.bool r) ∧ Drawn0 w w' := by
 have hu36 := Try.underlying36
 have HR0 := Aside0.mk hr0
 have HC0 := Aside0.mk hc0
 clear hr0 hc0
 have HR1 := Aside0.mk hr1
 have HC1 := Aside0.mk hc1
 clear hr1 hc1
 have H : (if (l0.length : Int) = (l1.length : Int) then (laws_samePays.l0 k l0 l1 0) else (some false)) = some r := h
 clear h
 by_cases c3 : (l0.length : Int) = (l1.length : Int)
 ·rw [if_pos c3] at H
  have c3b0 : ((l0.length : Int) == (l1.length : Int)) = true := beq_iff_eq.mpr c3
  have c3b1 : ((l0.length : Int) != (l1.length : Int)) = false := bne_eq_false_iff_eq.mpr c3
  have c3b2 : (l0.length == l1.length) = true := by first | simpa using c3 | (simp at c3 ⊢; omega)
  clear c3
  have H' := Aside0.mk H
  clear H
  go_enter Try.func14, Try.ntmps14
  go_wp2
  repeat (go_quiet (fail); try go_wp2)
  go_loopg [5] k (fun kq v5 w' => ∃ (x5_1 : Int), v5 = .int .i64 x5_1 ∧ Aside0 (laws_samePays.l0 kq l0 l1 x5_1 = some r) ∧ Aside0 (kq ≤ k) ∧ Drawn0 w w')
  case atStart => exact ⟨(0), (g3_), H', ⟨Nat.le_refl _⟩, g5_⟩
  case round =>
   clear H'
   try clear c1
   try clear p2
   try clear c3
   try clear c3b0
   try clear c3b1
   try clear c3b2
   obtain ⟨x5_1, rfl, HA, HK1, ⟨m1, rfl⟩⟩ := hrel
   cases gk with
   | zero => exact absurd HA.out (by simp [laws_samePays.l0])
   | succ k1 =>
    have H := HA.out
    clear HA
    simp only [laws_samePays.l0] at H
    by_cases c4 : x5_1 < (l0.length : Int)
    ·rw [if_pos c4] at H
     have c4b0 := decide_eq_true c4
     clear c4
     by_cases c5 : 0 ≤ x5_1
     ·rw [if_pos c5] at H
      have c5b0 := decide_eq_true c5
      clear c5
      by_cases c6 : x5_1 < (l1.length : Int)
      ·rw [if_pos c6] at H
       have c6b0 := decide_eq_true c6
       clear c6
       by_cases c7 : (!(((rd_T36 l0 x5_1).f0) == ((rd_T36 l1 x5_1).f0)) || (!(((rd_T36 l0 x5_1).f1) == ((rd_T36 l1 x5_1).f1)))) = true
       ·rw [if_pos c7] at H
        have c7b0 : (!(((rd_T36 l0 x5_1).f0) == ((rd_T36 l1 x5_1).f0)) || (!(((rd_T36 l0 x5_1).f1) == ((rd_T36 l1 x5_1).f1)))) = true := c7
        clear c7
        obtain rfl := Option.some.inj H
        have p191 : 0 ≤ (x5_1 : Int) := of_decide_eq_true (g1_)
        have q191 : x5_1 < (l0.length : Int) := of_decide_eq_true (g1_)
        obtain ⟨ad191, e191, hx191_0, hx191_1⟩ := at_T36 HR0.out x5_1 p191 q191
        cases e191
        replace p191 := eq_true p191
        replace q191 := eq_true q191
        have p192 : 0 ≤ (x5_1 : Int) := of_decide_eq_true (g1_)
        have q192 : x5_1 < (l1.length : Int) := of_decide_eq_true (g1_)
        obtain ⟨ad192, e192, hx192_0, hx192_1⟩ := at_T36 HR1.out x5_1 p192 q192
        cases e192
        replace p192 := eq_true p192
        replace q192 := eq_true q192
        go_wp2
        repeat (go_quiet (fail); try go_wp2)
        go_ret
        exact ⟨g3_, g5_⟩
       ·rw [if_neg c7] at H
        have c7b0 : (!(((rd_T36 l0 x5_1).f0) == ((rd_T36 l1 x5_1).f0)) || (!(((rd_T36 l0 x5_1).f1) == ((rd_T36 l1 x5_1).f1)))) = false := by simpa using c7
        clear c7
        have H' := Aside0.mk H
        clear H
        have p191 : 0 ≤ (x5_1 : Int) := of_decide_eq_true (g1_)
        have q191 : x5_1 < (l0.length : Int) := of_decide_eq_true (g1_)
        obtain ⟨ad191, e191, hx191_0, hx191_1⟩ := at_T36 HR0.out x5_1 p191 q191
        cases e191
        replace p191 := eq_true p191
        replace q191 := eq_true q191
        have p192 : 0 ≤ (x5_1 : Int) := of_decide_eq_true (g1_)
        have q192 : x5_1 < (l1.length : Int) := of_decide_eq_true (g1_)
        obtain ⟨ad192, e192, hx192_0, hx192_1⟩ := at_T36 HR1.out x5_1 p192 q192
        cases e192
        replace p192 := eq_true p192
        replace q192 := eq_true q192
        go_wp2
        repeat (go_quiet (fail); try go_wp2)
        go_roundg k1
        case measure => have := HK1.out; omega
        case rel => exact ⟨(wrap64 (x5_1 + 1)), (g3_), H', ⟨g9_⟩, g5_⟩
      ·rw [if_neg c6] at H
       exact absurd H (by simp)
     ·rw [if_neg c5] at H
      exact absurd H (by simp)
    ·rw [if_neg c4] at H
     have c4b0 := decide_eq_false c4
     clear c4
     obtain rfl := Option.some.inj H
     go_wp2
     repeat (go_quiet (fail); try go_wp2)
     go_ret
     exact ⟨g3_, g5_⟩
 ·rw [if_neg c3] at H
  have c3b0 : ((l0.length : Int) == (l1.length : Int)) = false := beq_eq_false_iff_ne.mpr c3
  have c3b1 : ((l0.length : Int) != (l1.length : Int)) = true := bne_iff_ne.mpr c3
  have c3b2 : (l0.length == l1.length) = false := by first | simpa using c3 | (simp at c3 ⊢; omega)
  obtain rfl := Option.some.inj H
  go_enter Try.func14, Try.ntmps14
  go_wp2
  repeat (go_quiet (fail); try go_wp2)
  go_ret
  exact ⟨g3_, g5_⟩
end Go.Proofs.Ytigpmfoagkhaeaa.PU

namespace Go.Proofs.Ytigpmfoagkhaeaa.PU
open Go.RowKit Go.Proofs.YtigpmfoagkhaeaaW.PrintWords Go.Proofs.YtigpmfoagkhaeaaW.PrintLast Go.Proofs.YtigpmfoagkhaeaaW.PrintMore Go.Proofs.Ytigpmfoagkhaeaa.Qd
attribute [local go_sem] max2_int min2_int max_two min_two max_three min_three max_four min_four   -- for this text's walks alone
set_option linter.unusedVariables false
set_option linter.unusedSimpArgs false
def spec_l1In.f (a0 : Int) (a1 : Int) (a2 : Int) : Option (Bool) := if a0 ≥ a1 then (some (decide (a0 ≤ a2))) else (some false)
set_option maxHeartbeats 8000000 in
set_option maxRecDepth 100000 in
theorem spec_l1In.calls (a0 : Int) (a1 : Int) (a2 : Int) (r : Bool) (w : World) (h : spec_l1In.f a0 a1 a2 = some r) :
  Calls Try.prog 90 #[.int .i64 a0, .int .i64 a1, .int .i64 a2] w fun e w' => e = .returned (.bool r) ∧ Drawn0 w w' := by
 have H : (if a0 ≥ a1 then (some (decide (a0 ≤ a2))) else (some false)) = some r := h
 clear h
 by_cases c4 : a0 ≥ a1
 ·rw [if_pos c4] at H
  have c4b0 := decide_eq_true c4
  clear c4
  obtain rfl := Option.some.inj H
  go_enter Try.func90, Try.ntmps90
  go_wp2
  go_ret
  exact ⟨g3_, g5_⟩
 ·rw [if_neg c4] at H
  have c4b0 := decide_eq_false c4
  clear c4
  obtain rfl := Option.some.inj H
  go_enter Try.func90, Try.ntmps90
  go_wp2
  go_ret
  exact ⟨g3_, g5_⟩
end Go.Proofs.Ytigpmfoagkhaeaa.PU

namespace Go.Proofs.Ytigpmfoagkhaeaa.PU
open Go.RowKit Go.Proofs.YtigpmfoagkhaeaaW.PrintWords Go.Proofs.YtigpmfoagkhaeaaW.PrintLast Go.Proofs.YtigpmfoagkhaeaaW.PrintMore Go.Proofs.Ytigpmfoagkhaeaa.Qd
attribute [local go_sem] max2_int min2_int max_two min_two max_three min_three max_four min_four   -- for this text's walks alone
set_option linter.unusedVariables false
set_option linter.unusedSimpArgs false
mutual
def spec_BookOk.j0 : Nat → Bool → List Int → List (List Int) → Option (Bool)
 | 0, _, _, _ => none
 | k + 1, x18, x194000, x194001 => if x18 = true then (some false) else (spec_BookOk.l0 k 0 x194000 x194001)
def spec_BookOk.l0 : Nat → Int → List Int → List (List Int) → Option (Bool)
 | 0, _, _, _ => none
 | k + 1, x3, x194000, x194001 => if x3 < (x194000.length : Int) then (if 0 ≤ x3 then ((spec_l1In.f (rd x194000 x3) 0 20).bind fun t196 => (if t196 = true then (if x3 < (x194001.length : Int) then (if ((rd_L2 x194001 x3).length : Int) = (x194000.length : Int) then (if x3 < ((rd_L2 x194001 x3).length : Int) then (spec_BookOk.j2 k x3 ((rd (rd_L2 x194001 x3) x3) != 0) x194000 x194001) else (none)) else (spec_BookOk.j2 k x3 true x194000 x194001)) else (none)) else (spec_BookOk.j2 k x3 true x194000 x194001))) else (none)) else (some true)
def spec_BookOk.j2 : Nat → Int → Bool → List Int → List (List Int) → Option (Bool)
 | 0, _, _, _, _ => none
 | k + 1, x3, x55, x194000, x194001 => if x55 = true then (some false) else (spec_BookOk.l1 k x3 0 x194000 x194001)
def spec_BookOk.l1 : Nat → Int → Int → List Int → List (List Int) → Option (Bool)
 | 0, _, _, _, _ => none
 | k + 1, x3, x4, x194000, x194001 => if 0 ≤ x3 then (if x3 < (x194001.length : Int) then (if x4 < ((rd_L2 x194001 x3).length : Int) then (if 0 ≤ x4 then ((spec_l1In.f (rd (rd_L2 x194001 x3) x4) 0 9).bind fun t203 => (if t203 = true then (spec_BookOk.l1 k x3 (wrap64 (x4 + 1)) x194000 x194001) else (some false))) else (none)) else (spec_BookOk.l0 k (wrap64 (x3 + 1)) x194000 x194001)) else (none)) else (none)
end
def spec_BookOk.f (k : Nat) (l0_0 : List Int) (l0_1 : List (List Int)) : Option (Bool) := (spec_l1In.f (l0_0.length : Int) 1 4).bind fun t194 => (if t194 = true then (spec_BookOk.j0 k ((l0_1.length : Int) != (l0_0.length : Int)) l0_0 l0_1) else (spec_BookOk.j0 k true l0_0 l0_1))
theorem spec_BookOk.mono_l : ∀ k, (∀ y0 y1 y2, LeO (spec_BookOk.j0 k y0 y1 y2) (spec_BookOk.j0 (k + 1) y0 y1 y2)) ∧ (∀ y0 y1 y2, LeO (spec_BookOk.l0 k y0 y1 y2) (spec_BookOk.l0 (k + 1) y0 y1 y2)) ∧ (∀ y0 y1 y2 y3, LeO (spec_BookOk.j2 k y0 y1 y2 y3) (spec_BookOk.j2 (k + 1) y0 y1 y2 y3)) ∧ (∀ y0 y1 y2 y3, LeO (spec_BookOk.l1 k y0 y1 y2 y3) (spec_BookOk.l1 (k + 1) y0 y1 y2 y3))
 | 0 => ⟨fun _ _ _ r h => by simp [spec_BookOk.j0] at h, fun _ _ _ r h => by simp [spec_BookOk.l0] at h, fun _ _ _ _ r h => by simp [spec_BookOk.j2] at h, fun _ _ _ _ r h => by simp [spec_BookOk.l1] at h⟩
 | k + 1 => by
  obtain ⟨ih0, ih1, ih2, ih3⟩ := spec_BookOk.mono_l k
  refine ⟨?_, ?_, ?_, ?_⟩
  ·intro y0 y1 y2
   unfold spec_BookOk.j0
   repeat' first
   | (with_reducible exact ih0 _ _ _)
   | (with_reducible exact ih1 _ _ _)
   | (with_reducible exact ih2 _ _ _ _)
   | (with_reducible exact ih3 _ _ _ _)
   | (with_reducible exact LeO.refl _)
   | (with_reducible exact LeO.none _)
   | (with_reducible refine LeO.ite ?_ ?_)
   | (with_reducible refine LeO.bind ?_ (fun _ => ?_))
   | exact ih0 _ _ _
   | exact ih1 _ _ _
   | exact ih2 _ _ _ _
   | exact ih3 _ _ _ _
   | exact LeO.none _
   | refine LeO.ite ?_ ?_
   | refine LeO.bind ?_ (fun _ => ?_)
  ·intro y0 y1 y2
   unfold spec_BookOk.l0
   repeat' first
   | (with_reducible exact ih0 _ _ _)
   | (with_reducible exact ih1 _ _ _)
   | (with_reducible exact ih2 _ _ _ _)
   | (with_reducible exact ih3 _ _ _ _)
   | (with_reducible exact LeO.refl _)
   | (with_reducible exact LeO.none _)
   | (with_reducible refine LeO.ite ?_ ?_)
   | (with_reducible refine LeO.bind ?_ (fun _ => ?_))
   | exact ih0 _ _ _
   | exact ih1 _ _ _
   | exact ih2 _ _ _ _
   | exact ih3 _ _ _ _
   | exact LeO.none _
   | refine LeO.ite ?_ ?_
   | refine LeO.bind ?_ (fun _ => ?_)
  ·intro y0 y1 y2 y3
   unfold spec_BookOk.j2
   repeat' first
   | (with_reducible exact ih0 _ _ _)
   | (with_reducible exact ih1 _ _ _)
   | (with_reducible exact ih2 _ _ _ _)
   | (with_reducible exact ih3 _ _ _ _)
   | (with_reducible exact LeO.refl _)
   | (with_reducible exact LeO.none _)
   | (with_reducible refine LeO.ite ?_ ?_)
   | (with_reducible refine LeO.bind ?_ (fun _ => ?_))
   | exact ih0 _ _ _
   | exact ih1 _ _ _
   | exact ih2 _ _ _ _
   | exact ih3 _ _ _ _
   | exact LeO.none _
   | refine LeO.ite ?_ ?_
   | refine LeO.bind ?_ (fun _ => ?_)
  ·intro y0 y1 y2 y3
   unfold spec_BookOk.l1
   repeat' first
   | (with_reducible exact ih0 _ _ _)
   | (with_reducible exact ih1 _ _ _)
   | (with_reducible exact ih2 _ _ _ _)
   | (with_reducible exact ih3 _ _ _ _)
   | (with_reducible exact LeO.refl _)
   | (with_reducible exact LeO.none _)
   | (with_reducible refine LeO.ite ?_ ?_)
   | (with_reducible refine LeO.bind ?_ (fun _ => ?_))
   | exact ih0 _ _ _
   | exact ih1 _ _ _
   | exact ih2 _ _ _ _
   | exact ih3 _ _ _ _
   | exact LeO.none _
   | refine LeO.ite ?_ ?_
   | refine LeO.bind ?_ (fun _ => ?_)
theorem spec_BookOk.mono : ∀ a0 a1 k, LeO (spec_BookOk.f k a0 a1) (spec_BookOk.f (k + 1) a0 a1) := by
 intro a0 a1 k
 obtain ⟨ih0, ih1, ih2, ih3⟩ := spec_BookOk.mono_l k
 unfold spec_BookOk.f
 repeat' first
   | (with_reducible exact ih0 _ _ _)
   | (with_reducible exact ih1 _ _ _)
   | (with_reducible exact ih2 _ _ _ _)
   | (with_reducible exact ih3 _ _ _ _)
   | (with_reducible exact LeO.refl _)
   | (with_reducible exact LeO.none _)
   | (with_reducible refine LeO.ite ?_ ?_)
   | (with_reducible refine LeO.bind ?_ (fun _ => ?_))
   | exact ih0 _ _ _
   | exact ih1 _ _ _
   | exact ih2 _ _ _ _
   | exact ih3 _ _ _ _
   | exact LeO.none _
   | refine LeO.ite ?_ ?_
   | refine LeO.bind ?_ (fun _ => ?_)
def spec_BookOk.T6 : Bool × List (List Nat × List Nat) := (true, [([], []), ([0], [0]), ([], []), ([1, 2], [1, 2]), ([3], [3]), ([4], [4]), ([5], [5]), ([6, 5], [6]), ([7], [7]), ([8, 7], [7, 8]), ([7], [7]), ([9, 10, 7], [7, 9, 10]), ([11, 7], [7, 11]), ([12, 7], [7, 12]), ([7], [7]), ([14, 7], [7, 14]), ([15, 7], [7, 15]), ([13, 16, 7], [7, 13, 16]), ([7, 17], [7, 17]), ([18, 7], [18]), ([19], [19]), ([20, 19], [19, 20]), ([19], [19]), ([21, 22, 19], [19, 21, 22]), ([23, 19], [19, 23]), ([19], [19]), ([24, 25, 19], [19, 24, 25]), ([26, 19], [19, 26]), ([27, 19], [19, 27]), ([19, 28], [19, 28])])
def spec_BookOk.B6 : List Nat := [0, 1, 0, 7, 15, 31, 63, 127, 255, 511, 255, 2047, 4095, 8191, 255, 16639, 49407, 131071, 262143, 524287, 1048575, 2097151, 1048575, 8388607, 16777215, 1048575, 67108863, 134217727, 268435455, 536870911]
theorem spec_BookOk.tab6 : rtab .any (opsOf Try.f56 6) = spec_BookOk.T6 := by kernel_rfl
theorem spec_BookOk.bits6 : waitsOk spec_BookOk.T6.2 spec_BookOk.B6 = true := by kernel_rfl
theorem spec_BookOk.calls_q0 {p : Prop} (h : p := by repeat (first | (with_reducible first | exact HB.out | apply below_alloc | apply pw_below_drewN | apply below_drew1 | refine below_set ?_ GE193.out) | exact HB.out)) : p := h
set_option maxHeartbeats 8000000 in
set_option maxRecDepth 100000 in
theorem spec_BookOk.calls (k : Nat) (A0_0 : Option Addr) (c0_0 : Nat) (l0_0 : List Int) (A0_1 : Option Addr) (c0_1 : Nat) (l0_1 : List (List Int)) (r : Bool) (w : World) (hr0_0 : Kd.C (Kd.int .i64) w A0_0 l0_0.length l0_0) (hc0_0 : l0_0.length ≤ c0_0) (hr0_1 : Kd.C (Kd.slice 3 (Kd.int .i64)) w A0_1 l0_1.length l0_1) (hc0_1 : l0_1.length ≤ c0_1) (h : spec_BookOk.f k l0_0 l0_1 = some r) :
  Calls Try.prog 56 #[.agg #[.slice A0_0 l0_0.length c0_0, .slice A0_1 l0_1.length c0_1]] w fun e w' => e = .returned (.bool r) ∧ Below w.heap.size w w' := by
 have hu26 := Try.underlying26
 have HR0_0 := Aside0.mk hr0_0
 have HC0_0 := Aside0.mk hc0_0
 clear hr0_0 hc0_0
 have HR0_1 := Aside0.mk hr0_1
 have HC0_1 := Aside0.mk hc0_1
 clear hr0_1 hc0_1
 have HB := Aside0.mk (Below.refl w.heap.size w)
 have H : ((spec_l1In.f (l0_0.length : Int) 1 4).bind fun t194 => (if t194 = true then (spec_BookOk.j0 k ((l0_1.length : Int) != (l0_0.length : Int)) l0_0 l0_1) else (spec_BookOk.j0 k true l0_0 l0_1))) = some r := h
 clear h
 have HC2 := Aside0.mk H
 clear H
 go_enter Try.func56, Try.ntmps56
 go_upto_region 1 with (first | ((with_reducible refine gate_dst (N := 1) rfl ?_); (try (refine gate_guard (by rfl) ?_; dsimp only)); refine bx_ (N := 1) #[.slice A0_0 l0_0.length c0_0, .slice A0_1 l0_1.length c0_1] 26 ?_; intro gb193 hg w3 hbox hb; have BK193 := Aside0.mk (hbox); have GW193 := Aside0.mk ((by rw [hg]; exact (below_size (spec_BookOk.calls_q0)) : w.heap.size ≤ gb193)); have GE193 := Aside0.mk ((by rw [hg]; exact (below_size (spec_BookOk.calls_q0)) : w.heap.size ≤ gb193)); replace HB := Aside0.mk (below_step (spec_BookOk.calls_q0) hb); clear hb hbox hg))
 (try simp only [Act.put, List.setIfInBounds_toArray, List.set_cons_zero, List.set_cons_succ])
 go_cut [18] (fun v18 wc => ∃ (kq : Nat) (x18_1 : Bool), v18 = .bool x18_1 ∧ Aside0 (spec_BookOk.j0 kq x18_1 l0_0 l0_1 = some r) ∧ Aside0 (kq ≤ k) ∧ Aside0 (wc.heap[gb193]? = some (.cells #[(.slice A0_0 l0_0.length c0_0), (.slice A0_1 l0_1.length c0_1)] 26 (0, 0))) ∧ Aside0 (Below w.heap.size w wc))
 case first =>
  have H := HC2.out
  clear HC2
  obtain ⟨t194, A4, H⟩ := bind_ H
  by_cases c5 : t194 = true
  ·subst c5
   replace H := ifp_ H
   have H' := Aside0.mk H
   clear H
   obtain ⟨hcz6_0, hcz6_1, hfz6_0, hfz6_1⟩ := blk2_ BK193
   go_wp2_with (first | ((with_reducible refine gate_callee (f := 90) rfl ?_); refine goesL_ (some 8) rfl rfl Try.func90 k_ rfl #[.int .i64 (l0_0.length : Int), .int .i64 1, .int .i64 4] rfl (g2_) ?_; (with_reducible refine (spec_l1In.calls (l0_0.length : Int) 1 4 true _ A4.out).mono ?_); rintro e w' ⟨rfl, ⟨nd, rfl⟩⟩; refine ⟨_, rfl, ?_⟩))
   go_meet
   case rel => exact ⟨_, (((l0_1.length : Int) != (l0_0.length : Int))), (g3_), H', ⟨g13_⟩, ⟨uf0_ BK193⟩, ⟨spec_BookOk.calls_q0⟩⟩
  ·replace c5 := Bool.eq_false_iff.mpr c5
   subst c5
   replace H := ifn_ H
   have H' := Aside0.mk H
   clear H
   obtain ⟨hcz7_0, hcz7_1, hfz7_0, hfz7_1⟩ := blk2_ BK193
   go_wp2_with (first | ((with_reducible refine gate_callee (f := 90) rfl ?_); refine goesL_ (some 8) rfl rfl Try.func90 k_ rfl #[.int .i64 (l0_0.length : Int), .int .i64 1, .int .i64 4] rfl (g2_) ?_; (with_reducible refine (spec_l1In.calls (l0_0.length : Int) 1 4 false _ A4.out).mono ?_); rintro e w' ⟨rfl, ⟨nd, rfl⟩⟩; refine ⟨_, rfl, ?_⟩))
   go_meet
   case rel => exact ⟨_, (true), (g3_), H', ⟨g13_⟩, ⟨uf0_ BK193⟩, ⟨spec_BookOk.calls_q0⟩⟩
 case rest =>
  clear HC2
  try clear p2
  try clear c5
  try clear hcz6_0
  try clear hcz6_1
  try clear hcz7_0
  try clear hcz7_1
  try clear hfz6_0
  try clear hfz6_1
  try clear hfz7_0
  try clear hfz7_1
  obtain ⟨kq, x18_1, rfl, HA, HJ1, BK193, HB⟩ := hcut
  cases kq with
  | zero => exact absurd HA.out (by simp [spec_BookOk.j0])
  | succ kj1 =>
   have H := HA.out
   clear HA
   simp only [spec_BookOk.j0] at H
   by_cases c8 : x18_1 = true
   ·subst c8
    replace H := ifp_ H
    obtain rfl := Option.some.inj H
    go_wp2
    go_ret
    exact ⟨g4_, spec_BookOk.calls_q0⟩
   ·replace c8 := Bool.eq_false_iff.mpr c8
    subst c8
    replace H := ifn_ H
    have H' := Aside0.mk H
    clear H
    go_wp2
    go_loopg [3] kj1 (fun kq v3 w' => ∃ (x3_2 : Int), v3 = .int .i64 x3_2 ∧ Aside0 (spec_BookOk.l0 kq x3_2 l0_0 l0_1 = some r) ∧ Aside0 (kq ≤ kj1) ∧ Aside0 (w'.heap[gb193]? = some (.cells #[(.slice A0_0 l0_0.length c0_0), (.slice A0_1 l0_1.length c0_1)] 26 (0, 0))) ∧ Aside0 (Below w.heap.size w w'))
    case atStart => exact ⟨(0), (g3_), H', ⟨Nat.le_refl _⟩, ⟨uf0_ BK193⟩, ⟨spec_BookOk.calls_q0⟩⟩
    case round =>
     clear H'
     try clear p2
     try clear c5
     try clear c8
     try clear hcz6_0
     try clear hcz6_1
     try clear hcz7_0
     try clear hcz7_1
     try clear hfz6_0
     try clear hfz6_1
     try clear hfz7_0
     try clear hfz7_1
     try clear p2
     obtain ⟨x3_2, rfl, HA, HK2, BK193, HB⟩ := hrel
     cases gk with
     | zero => exact absurd HA.out (by simp [spec_BookOk.l0])
     | succ k2 =>
      have H := HA.out
      clear HA
      simp only [spec_BookOk.l0] at H
      by_cases c9 : x3_2 < (l0_0.length : Int)
      ·rw [if_pos c9] at H
       have c9b0 := decide_eq_true c9
       clear c9
       have HC10 := Aside0.mk H
       clear H
       obtain ⟨hcz11_0, hcz11_1, hfz11_0, hfz11_1⟩ := blk2_ BK193
       go_upto_region 6 with (fail)
       go_cut [55] (fun v55 wc => ∃ (kq : Nat) (x55_9 : Bool), v55 = .bool x55_9 ∧ Aside0 (spec_BookOk.j2 kq x3_2 x55_9 l0_0 l0_1 = some r) ∧ Aside0 (kq ≤ k2) ∧ Aside0 (wc.heap[gb193]? = some (.cells #[(.slice A0_0 l0_0.length c0_0), (.slice A0_1 l0_1.length c0_1)] 26 (0, 0))) ∧ Aside0 (Below w.heap.size w wc))
       case first =>
        have H := HC10.out
        clear HC10
        by_cases c12 : 0 ≤ x3_2
        ·rw [if_pos c12] at H
         have c12b0 := decide_eq_true c12
         clear c12
         (first | rw [c12b0] | (simp only [i64_w, i32_w]; rw [c12b0]) | skip)
         obtain ⟨t196, A13, H⟩ := bind_ H
         by_cases c14 : t196 = true
         ·subst c14
          replace H := ifp_ H
          by_cases c15 : x3_2 < (l0_1.length : Int)
          ·rw [if_pos c15] at H
           have c15b0 := decide_eq_true c15
           clear c15
           by_cases c16 : ((rd_L2 l0_1 x3_2).length : Int) = (l0_0.length : Int)
           ·rw [if_pos c16] at H
            have c16b0 : (((rd_L2 l0_1 x3_2).length : Int) == (l0_0.length : Int)) = true := beq_iff_eq.mpr c16
            have c16b1 : (((rd_L2 l0_1 x3_2).length : Int) != (l0_0.length : Int)) = false := bne_eq_false_iff_eq.mpr c16
            have c16b2 : ((rd_L2 l0_1 x3_2).length == l0_0.length) = true := by first | simpa using c16 | (simp at c16 ⊢; omega)
            clear c16
            by_cases c17 : x3_2 < ((rd_L2 l0_1 x3_2).length : Int)
            ·rw [if_pos c17] at H
             have c17b0 := decide_eq_true c17
             clear c17
             have H' := Aside0.mk H
             clear H
             try go_wp2
             replace BK193 := Aside0.mk (blk_drew BK193.out)
             replace HB := Aside0.mk (below_drew1 HB.out)
             have p195 : 0 ≤ (x3_2 : Int) := of_decide_eq_true (g1_)
             have q195 : x3_2 < (l0_0.length : Int) := of_decide_eq_true (g1_)
             obtain ⟨ad195, e195, hx195_0⟩ := Kd.at_int HR0_0.out x3_2 p195 q195
             have hw195_0 := hx195_0
             cases e195
             replace hx195_0 := cl_ HB hx195_0
             replace p195 := eq_true p195
             replace q195 := eq_true q195
             have p197 : 0 ≤ (x3_2 : Int) := of_decide_eq_true (g1_)
             have q197 : x3_2 < (l0_1.length : Int) := of_decide_eq_true (g1_)
             obtain ⟨ad197, A197_0, c197_0, e197, hx197_0, hl197_0, hi197_0⟩ := at_L2 HR0_1.out x3_2 p197 q197
             have hw197_0 := hx197_0
             cases e197
             replace hx197_0 := cl_ HB hx197_0
             have HR197_0 := Aside0.mk hi197_0
             have HC197_0 := Aside0.mk hl197_0
             clear hi197_0 hl197_0
             replace p197 := eq_true p197
             replace q197 := eq_true q197
             have p198 : 0 ≤ (x3_2 : Int) := of_decide_eq_true (g1_)
             have q198 : x3_2 < (l0_1.length : Int) := of_decide_eq_true (g1_)
             obtain ⟨ad198, A198_0, c198_0, e198, hx198_0, hl198_0, hi198_0⟩ := at_L2 HR0_1.out x3_2 p198 q198
             have hw198_0 := hx198_0
             obtain rfl : ad197 = ad198 := (by injection e198)
             replace hx198_0 := cl_ HB hx198_0
             have HR198_0 := Aside0.mk hi198_0
             have HC198_0 := Aside0.mk hl198_0
             clear hi198_0 hl198_0
             replace p198 := eq_true p198
             replace q198 := eq_true q198
             have ea_ := Option.some.inj (hx197_0.symm.trans hx198_0)
             injection ea_ with ea_ en_ ec_
             subst ea_
             subst ec_
             clear en_
             have p199 : 0 ≤ (x3_2 : Int) := of_decide_eq_true (g1_)
             have q199 : x3_2 < ((rd_L2 l0_1 x3_2).length : Int) := of_decide_eq_true (g1_)
             obtain ⟨ad199, e199, hx199_0⟩ := Kd.at_int HR198_0.out x3_2 p199 q199
             have hw199_0 := hx199_0
             cases e199
             replace hx199_0 := cl_ HB hx199_0
             replace p199 := eq_true p199
             replace q199 := eq_true q199
             refine start_ (n := 30) (S := fun w' => w'.cell? ⟨gb193, 0, none⟩ = some (.slice (some ad195) l0_0.length c0_0) ∧ w'.cell? ⟨gb193, 1, none⟩ = some (.slice (some ad197) l0_1.length c0_1) ∧ w'.cell? (ad195.add (x3_2).toNat) = some (.int .i64 (rd l0_0 x3_2)) ∧ w'.cell? (ad197.add (x3_2).toNat) = some (.slice (some ad199) (rd_L2 l0_1 x3_2).length c197_0) ∧ w'.cell? (ad197.add (x3_2).toNat) = some (.slice (some ad199) (rd_L2 l0_1 x3_2).length c197_0) ∧ w'.cell? (ad199.add (x3_2).toNat) = some (.int .i64 (rd (rd_L2 l0_1 x3_2) x3_2))) (ds := []) (tl_ 30 0) (g0_) rfl (g0_) ⟨(blk_cell BK193.out 0).trans rfl, (blk_cell BK193.out 1).trans rfl, ((cl_ HB hw195_0).trans rfl), ((cl_ HB hw197_0).trans rfl), ((cl_ HB hw198_0).trans rfl), ((cl_ HB hw199_0).trans rfl)⟩ (fun hHeld => ?_); refine with_tabW spec_BookOk.tab6 spec_BookOk.bits6 (fun HT_ HW_ => ?_)
             generalize wr.drew = w18 at BK193 HB HR197_0 HR198_0 hx195_0 hx197_0 hx198_0 hx199_0 hHeld ⊢
             refine pw_ 0 26 (tl_ 30 1) rfl rfl ?_
             refine pw_ 2 28 (tl_ 30 5) rfl rfl ?_
             refine tk2_ 1 27 (tl_ 30 7) rfl rfl hHeld ?_
             refine pw_ 3 29 (tl_ 30 15) rfl rfl ?_
             refine tk2_ 4 30 (tl_ 30 31) rfl rfl hHeld ?_
             refine one_ (i := 5) (N := some 31) (tl_ 30 63) rfl rfl (one_of HT_.out (g0_)) (by decide) (fun K hK => ?_)
             refine goes_ Try.func90 (g0_) rfl #[.int .i64 (rd l0_0 x3_2), .int .i64 0, .int .i64 20] (by rfl) rfl rfl (g2_) ?_
             with_reducible refine (spec_l1In.calls (rd l0_0 x3_2) 0 20 true _ A13.out).mono ?_
             rintro e w' ⟨rfl, ⟨nd, rfl⟩⟩
             refine ⟨_, rfl, ?_⟩
             refine hK.out _ _ ⟨(blk_cell BK193.out 0).trans rfl, (blk_cell BK193.out 1).trans rfl, ((cl_ HB hw195_0).trans rfl), ((cl_ HB hw197_0).trans rfl), ((cl_ HB hw198_0).trans rfl), ((cl_ HB hw199_0).trans rfl)⟩ (fun hHeld => ?_)
             clear hK K
             refine nm_ ?_
             refine pw_ 6 32 (tl_ 30 127) rfl rfl ?_
             refine pw_ 7 33 (tl_ 30 255) rfl rfl ?_
             refine pw_ 8 34 (tl_ 30 511) rfl rfl ?_
             refine pw_ 10 36 (tl_ 30 1535) rfl rfl ?_
             refine pw_ 14 40 (tl_ 30 17919) rfl rfl ?_
             refine tk2_ 9 35 (tl_ 30 18431) rfl rfl hHeld ?_
             refine pw_ 11 37 (tl_ 30 20479) rfl rfl ?_
             refine tk2_ 12 38 (tl_ 30 24575) rfl rfl hHeld ?_
             refine pw_ 13 39 (tl_ 30 32767) rfl rfl ?_
             refine tk2_ 15 41 (tl_ 30 65535) rfl rfl hHeld ?_
             refine pw_ 16 42 (tl_ 30 131071) rfl rfl ?_
             refine pw_ 17 43 (tl_ 30 262143) rfl rfl ?_
             refine pw_ 18 44 (tl_ 30 524287) rfl rfl ?_
             refine pw_ 19 45 (tl_ 30 1048575) rfl rfl ?_
             refine pw_ 20 46 (tl_ 30 2097151) rfl rfl ?_
             refine pw_ 22 48 (tl_ 30 6291455) rfl rfl ?_
             refine pw_ 25 51 (tl_ 30 39845887) rfl rfl ?_
             refine tk2_ 21 47 (tl_ 30 41943039) rfl rfl hHeld ?_
             refine pw_ 23 49 (tl_ 30 50331647) rfl rfl ?_
             refine tk2_ 24 50 (tl_ 30 67108863) rfl rfl hHeld ?_
             refine pw_ 26 52 (tl_ 30 134217727) rfl rfl ?_
             refine tk2_ 27 53 (tl_ 30 268435455) rfl rfl hHeld ?_
             refine pw_ 28 54 (tl_ 30 536870911) rfl rfl ?_
             refine pw_ 29 55 (tl_ 30 1073741823) rfl rfl ?_
             refine done_ (done_of HT_.out (g0_)) ?_
             try go_wp2
             go_meet
             case rel => exact ⟨_, (((rd (rd_L2 l0_1 x3_2) x3_2) != 0)), (g3_), H', ⟨g47_⟩, ⟨uf0_ BK193⟩, ⟨spec_BookOk.calls_q0⟩⟩
            ·rw [if_neg c17] at H
             exact absurd H (by simp)
           ·rw [if_neg c16] at H
            have c16b0 : (((rd_L2 l0_1 x3_2).length : Int) == (l0_0.length : Int)) = false := beq_eq_false_iff_ne.mpr c16
            have c16b1 : (((rd_L2 l0_1 x3_2).length : Int) != (l0_0.length : Int)) = true := bne_iff_ne.mpr c16
            have c16b2 : ((rd_L2 l0_1 x3_2).length == l0_0.length) = false := by first | simpa using c16 | (simp at c16 ⊢; omega)
            have H' := Aside0.mk H
            clear H
            try go_wp2
            replace BK193 := Aside0.mk (blk_drew BK193.out)
            replace HB := Aside0.mk (below_drew1 HB.out)
            have p195 : 0 ≤ (x3_2 : Int) := of_decide_eq_true (g1_)
            have q195 : x3_2 < (l0_0.length : Int) := of_decide_eq_true (g1_)
            obtain ⟨ad195, e195, hx195_0⟩ := Kd.at_int HR0_0.out x3_2 p195 q195
            have hw195_0 := hx195_0
            cases e195
            replace hx195_0 := cl_ HB hx195_0
            replace p195 := eq_true p195
            replace q195 := eq_true q195
            have p197 : 0 ≤ (x3_2 : Int) := of_decide_eq_true (g1_)
            have q197 : x3_2 < (l0_1.length : Int) := of_decide_eq_true (g1_)
            obtain ⟨ad197, A197_0, c197_0, e197, hx197_0, hl197_0, hi197_0⟩ := at_L2 HR0_1.out x3_2 p197 q197
            have hw197_0 := hx197_0
            cases e197
            replace hx197_0 := cl_ HB hx197_0
            have HR197_0 := Aside0.mk hi197_0
            have HC197_0 := Aside0.mk hl197_0
            clear hi197_0 hl197_0
            replace p197 := eq_true p197
            replace q197 := eq_true q197
            refine start_ (n := 30) (S := fun w' => w'.cell? ⟨gb193, 0, none⟩ = some (.slice (some ad195) l0_0.length c0_0) ∧ w'.cell? ⟨gb193, 1, none⟩ = some (.slice (some ad197) l0_1.length c0_1) ∧ w'.cell? (ad195.add (x3_2).toNat) = some (.int .i64 (rd l0_0 x3_2)) ∧ w'.cell? (ad197.add (x3_2).toNat) = some (.slice A197_0 (rd_L2 l0_1 x3_2).length c197_0)) (ds := []) (tl_ 30 0) (g0_) rfl (g0_) ⟨(blk_cell BK193.out 0).trans rfl, (blk_cell BK193.out 1).trans rfl, ((cl_ HB hw195_0).trans rfl), ((cl_ HB hw197_0).trans rfl)⟩ (fun hHeld => ?_); refine with_tabW spec_BookOk.tab6 spec_BookOk.bits6 (fun HT_ HW_ => ?_)
            generalize wr.drew = w19 at BK193 HB HR197_0 hx195_0 hx197_0 hHeld ⊢
            refine pw_ 0 26 (tl_ 30 1) rfl rfl ?_
            refine pw_ 2 28 (tl_ 30 5) rfl rfl ?_
            refine tk3_ 1 27 (tl_ 30 7) rfl rfl hHeld ?_
            refine pw_ 3 29 (tl_ 30 15) rfl rfl ?_
            refine tk3_ 4 30 (tl_ 30 31) rfl rfl hHeld ?_
            refine one_ (i := 5) (N := some 31) (tl_ 30 63) rfl rfl (one_of HT_.out (g0_)) (by decide) (fun K hK => ?_)
            refine goes_ Try.func90 (g0_) rfl #[.int .i64 (rd l0_0 x3_2), .int .i64 0, .int .i64 20] (by rfl) rfl rfl (g2_) ?_
            with_reducible refine (spec_l1In.calls (rd l0_0 x3_2) 0 20 true _ A13.out).mono ?_
            rintro e w' ⟨rfl, ⟨nd, rfl⟩⟩
            refine ⟨_, rfl, ?_⟩
            refine hK.out _ _ ⟨(blk_cell BK193.out 0).trans rfl, (blk_cell BK193.out 1).trans rfl, ((cl_ HB hw195_0).trans rfl), ((cl_ HB hw197_0).trans rfl)⟩ (fun hHeld => ?_)
            clear hK K
            refine nm_ ?_
            refine pw_ 6 32 (tl_ 30 127) rfl rfl ?_
            refine pw_ 7 33 (tl_ 30 255) rfl rfl ?_
            refine pw_ 8 34 (tl_ 30 511) rfl rfl ?_
            refine pw_ 10 36 (tl_ 30 1535) rfl rfl ?_
            refine pw_ 14 40 (tl_ 30 17919) rfl rfl ?_
            refine tk3_ 9 35 (tl_ 30 18431) rfl rfl hHeld ?_
            refine pw_ 11 37 (tl_ 30 20479) rfl rfl ?_
            refine tk3_ 12 38 (tl_ 30 24575) rfl rfl hHeld ?_
            refine pw_ 13 39 (tl_ 30 32767) rfl rfl ?_
            refine tk3_ 15 41 (tl_ 30 65535) rfl rfl hHeld ?_
            refine pw_ 16 42 (tl_ 30 131071) rfl rfl ?_
            refine pw_ 17 43 (tl_ 30 262143) rfl rfl ?_
            refine pw_ 18 44 (tl_ 30 524287) rfl rfl ?_
            refine pw_ 19 45 (tl_ 30 1048575) rfl rfl ?_
            refine pure_ (i := 20) (N := some 46) (v := undef) (a' := ?_) (tl_ 30 2097151) rfl rfl (any_of HT_.out (g0_)) (fun _ _ _ h => h) (Or.inr ⟨by rfl, rfl⟩) ?_ ?_
            rotate_left
            ·simp only [Act.put, List.setIfInBounds_toArray, List.set_cons_zero, List.set_cons_succ, i64_w, i32_w]
             rfl
            refine pure_ (i := 21) (N := some 47) (v := undef) (a' := ?_) (tl_ 30 4194303) rfl rfl (any_of HT_.out (g0_)) (fun _ _ _ h => h) (Or.inr ⟨by rfl, rfl⟩) ?_ ?_
            rotate_left
            ·simp only [Act.put, List.setIfInBounds_toArray, List.set_cons_zero, List.set_cons_succ, i64_w, i32_w]
             rfl
            refine pure_ (i := 22) (N := some 48) (v := undef) (a' := ?_) (tl_ 30 8388607) rfl rfl (any_of HT_.out (g0_)) (fun _ _ _ h => h) (Or.inr ⟨by rfl, rfl⟩) ?_ ?_
            rotate_left
            ·simp only [Act.put, List.setIfInBounds_toArray, List.set_cons_zero, List.set_cons_succ, i64_w, i32_w]
             rfl
            refine pure_ (i := 23) (N := some 49) (v := undef) (a' := ?_) (tl_ 30 16777215) rfl rfl (any_of HT_.out (g0_)) (fun _ _ _ h => h) (Or.inr ⟨by rfl, rfl⟩) ?_ ?_
            rotate_left
            ·simp only [Act.put, List.setIfInBounds_toArray, List.set_cons_zero, List.set_cons_succ, i64_w, i32_w]
             rfl
            refine pure_ (i := 24) (N := some 50) (v := undef) (a' := ?_) (tl_ 30 33554431) rfl rfl (any_of HT_.out (g0_)) (fun _ _ _ h => h) (Or.inr ⟨by rfl, rfl⟩) ?_ ?_
            rotate_left
            ·simp only [Act.put, List.setIfInBounds_toArray, List.set_cons_zero, List.set_cons_succ, i64_w, i32_w]
             rfl
            refine pure_ (i := 25) (N := some 51) (v := undef) (a' := ?_) (tl_ 30 67108863) rfl rfl (any_of HT_.out (g0_)) (fun _ _ _ h => h) (Or.inr ⟨by rfl, rfl⟩) ?_ ?_
            rotate_left
            ·simp only [Act.put, List.setIfInBounds_toArray, List.set_cons_zero, List.set_cons_succ, i64_w, i32_w]
             rfl
            refine pure_ (i := 26) (N := some 52) (v := undef) (a' := ?_) (tl_ 30 134217727) rfl rfl (any_of HT_.out (g0_)) (fun _ _ _ h => h) (Or.inr ⟨by rfl, rfl⟩) ?_ ?_
            rotate_left
            ·simp only [Act.put, List.setIfInBounds_toArray, List.set_cons_zero, List.set_cons_succ, i64_w, i32_w]
             rfl
            refine pure_ (i := 27) (N := some 53) (v := undef) (a' := ?_) (tl_ 30 268435455) rfl rfl (any_of HT_.out (g0_)) (fun _ _ _ h => h) (Or.inr ⟨by rfl, rfl⟩) ?_ ?_
            rotate_left
            ·simp only [Act.put, List.setIfInBounds_toArray, List.set_cons_zero, List.set_cons_succ, i64_w, i32_w]
             rfl
            refine pure_ (i := 28) (N := some 54) (v := undef) (a' := ?_) (tl_ 30 536870911) rfl rfl (any_of HT_.out (g0_)) (fun _ _ _ h => h) (Or.inr ⟨by rfl, rfl⟩) ?_ ?_
            rotate_left
            ·simp only [Act.put, List.setIfInBounds_toArray, List.set_cons_zero, List.set_cons_succ, i64_w, i32_w]
             rfl
            refine pw_ 29 55 (tl_ 30 1073741823) rfl rfl ?_
            refine done_ (done_of HT_.out (g0_)) ?_
            try go_wp2
            go_meet
            case rel => exact ⟨_, (true), (g3_), H', ⟨g47_⟩, ⟨uf0_ BK193⟩, ⟨spec_BookOk.calls_q0⟩⟩
          ·rw [if_neg c15] at H
           exact absurd H (by simp)
         ·replace c14 := Bool.eq_false_iff.mpr c14
          subst c14
          replace H := ifn_ H
          have H' := Aside0.mk H
          clear H
          try go_wp2
          replace BK193 := Aside0.mk (blk_drew BK193.out)
          replace HB := Aside0.mk (below_drew1 HB.out)
          have p195 : 0 ≤ (x3_2 : Int) := of_decide_eq_true (g1_)
          have q195 : x3_2 < (l0_0.length : Int) := of_decide_eq_true (g1_)
          obtain ⟨ad195, e195, hx195_0⟩ := Kd.at_int HR0_0.out x3_2 p195 q195
          have hw195_0 := hx195_0
          cases e195
          replace hx195_0 := cl_ HB hx195_0
          replace p195 := eq_true p195
          replace q195 := eq_true q195
          refine start_ (n := 30) (S := fun w' => w'.cell? ⟨gb193, 0, none⟩ = some (.slice (some ad195) l0_0.length c0_0) ∧ w'.cell? ⟨gb193, 1, none⟩ = some (.slice A0_1 l0_1.length c0_1) ∧ w'.cell? (ad195.add (x3_2).toNat) = some (.int .i64 (rd l0_0 x3_2))) (ds := []) (tl_ 30 0) (g0_) rfl (g0_) ⟨(blk_cell BK193.out 0).trans rfl, (blk_cell BK193.out 1).trans rfl, ((cl_ HB hw195_0).trans rfl)⟩ (fun hHeld => ?_); refine with_tabW spec_BookOk.tab6 spec_BookOk.bits6 (fun HT_ HW_ => ?_)
          generalize wr.drew = w20 at BK193 HB hx195_0 hHeld ⊢
          refine pw_ 0 26 (tl_ 30 1) rfl rfl ?_
          refine pw_ 2 28 (tl_ 30 5) rfl rfl ?_
          refine tk1_ 1 27 (tl_ 30 7) rfl rfl hHeld ?_
          refine pw_ 3 29 (tl_ 30 15) rfl rfl ?_
          refine tk1_ 4 30 (tl_ 30 31) rfl rfl hHeld ?_
          refine one_ (i := 5) (N := some 31) (tl_ 30 63) rfl rfl (one_of HT_.out (g0_)) (by decide) (fun K hK => ?_)
          refine goes_ Try.func90 (g0_) rfl #[.int .i64 (rd l0_0 x3_2), .int .i64 0, .int .i64 20] (by rfl) rfl rfl (g2_) ?_
          with_reducible refine (spec_l1In.calls (rd l0_0 x3_2) 0 20 false _ A13.out).mono ?_
          rintro e w' ⟨rfl, ⟨nd, rfl⟩⟩
          refine ⟨_, rfl, ?_⟩
          refine hK.out _ _ ⟨(blk_cell BK193.out 0).trans rfl, (blk_cell BK193.out 1).trans rfl, ((cl_ HB hw195_0).trans rfl)⟩ (fun hHeld => ?_)
          clear hK K
          refine nm_ ?_
          refine pw_ 6 32 (tl_ 30 127) rfl rfl ?_
          refine pw_ 7 33 (tl_ 30 255) rfl rfl ?_
          refine pure_ (i := 8) (N := some 34) (v := undef) (a' := ?_) (tl_ 30 511) rfl rfl (any_of HT_.out (g0_)) (fun _ _ _ h => h) (Or.inr ⟨by rfl, rfl⟩) ?_ ?_
          rotate_left
          ·simp only [Act.put, List.setIfInBounds_toArray, List.set_cons_zero, List.set_cons_succ, i64_w, i32_w]
           rfl
          refine pure_ (i := 9) (N := some 35) (v := undef) (a' := ?_) (tl_ 30 1023) rfl rfl (any_of HT_.out (g0_)) (fun _ _ _ h => h) (Or.inr ⟨by rfl, rfl⟩) ?_ ?_
          rotate_left
          ·simp only [Act.put, List.setIfInBounds_toArray, List.set_cons_zero, List.set_cons_succ, i64_w, i32_w]
           rfl
          refine pure_ (i := 10) (N := some 36) (v := undef) (a' := ?_) (tl_ 30 2047) rfl rfl (any_of HT_.out (g0_)) (fun _ _ _ h => h) (Or.inr ⟨by rfl, rfl⟩) ?_ ?_
          rotate_left
          ·simp only [Act.put, List.setIfInBounds_toArray, List.set_cons_zero, List.set_cons_succ, i64_w, i32_w]
           rfl
          refine pure_ (i := 11) (N := some 37) (v := undef) (a' := ?_) (tl_ 30 4095) rfl rfl (any_of HT_.out (g0_)) (fun _ _ _ h => h) (Or.inr ⟨by rfl, rfl⟩) ?_ ?_
          rotate_left
          ·simp only [Act.put, List.setIfInBounds_toArray, List.set_cons_zero, List.set_cons_succ, i64_w, i32_w]
           rfl
          refine pure_ (i := 12) (N := some 38) (v := undef) (a' := ?_) (tl_ 30 8191) rfl rfl (any_of HT_.out (g0_)) (fun _ _ _ h => h) (Or.inr ⟨by rfl, rfl⟩) ?_ ?_
          rotate_left
          ·simp only [Act.put, List.setIfInBounds_toArray, List.set_cons_zero, List.set_cons_succ, i64_w, i32_w]
           rfl
          refine pure_ (i := 13) (N := some 39) (v := undef) (a' := ?_) (tl_ 30 16383) rfl rfl (any_of HT_.out (g0_)) (fun _ _ _ h => h) (Or.inr ⟨by rfl, rfl⟩) ?_ ?_
          rotate_left
          ·simp only [Act.put, List.setIfInBounds_toArray, List.set_cons_zero, List.set_cons_succ, i64_w, i32_w]
           rfl
          refine pure_ (i := 14) (N := some 40) (v := undef) (a' := ?_) (tl_ 30 32767) rfl rfl (any_of HT_.out (g0_)) (fun _ _ _ h => h) (Or.inr ⟨by rfl, rfl⟩) ?_ ?_
          rotate_left
          ·simp only [Act.put, List.setIfInBounds_toArray, List.set_cons_zero, List.set_cons_succ, i64_w, i32_w]
           rfl
          refine pure_ (i := 15) (N := some 41) (v := undef) (a' := ?_) (tl_ 30 65535) rfl rfl (any_of HT_.out (g0_)) (fun _ _ _ h => h) (Or.inr ⟨by rfl, rfl⟩) ?_ ?_
          rotate_left
          ·simp only [Act.put, List.setIfInBounds_toArray, List.set_cons_zero, List.set_cons_succ, i64_w, i32_w]
           rfl
          refine pure_ (i := 16) (N := some 42) (v := undef) (a' := ?_) (tl_ 30 131071) rfl rfl (any_of HT_.out (g0_)) (fun _ _ _ h => h) (Or.inr ⟨by rfl, rfl⟩) ?_ ?_
          rotate_left
          ·simp only [Act.put, List.setIfInBounds_toArray, List.set_cons_zero, List.set_cons_succ, i64_w, i32_w]
           rfl
          refine pure_ (i := 17) (N := some 43) (v := undef) (a' := ?_) (tl_ 30 262143) rfl rfl (any_of HT_.out (g0_)) (fun _ _ _ h => h) (Or.inr ⟨by rfl, rfl⟩) ?_ ?_
          rotate_left
          ·simp only [Act.put, List.setIfInBounds_toArray, List.set_cons_zero, List.set_cons_succ, i64_w, i32_w]
           rfl
          refine pw_ 18 44 (tl_ 30 524287) rfl rfl ?_
          refine pw_ 19 45 (tl_ 30 1048575) rfl rfl ?_
          refine pure_ (i := 20) (N := some 46) (v := undef) (a' := ?_) (tl_ 30 2097151) rfl rfl (any_of HT_.out (g0_)) (fun _ _ _ h => h) (Or.inr ⟨by rfl, rfl⟩) ?_ ?_
          rotate_left
          ·simp only [Act.put, List.setIfInBounds_toArray, List.set_cons_zero, List.set_cons_succ, i64_w, i32_w]
           rfl
          refine pure_ (i := 21) (N := some 47) (v := undef) (a' := ?_) (tl_ 30 4194303) rfl rfl (any_of HT_.out (g0_)) (fun _ _ _ h => h) (Or.inr ⟨by rfl, rfl⟩) ?_ ?_
          rotate_left
          ·simp only [Act.put, List.setIfInBounds_toArray, List.set_cons_zero, List.set_cons_succ, i64_w, i32_w]
           rfl
          refine pure_ (i := 22) (N := some 48) (v := undef) (a' := ?_) (tl_ 30 8388607) rfl rfl (any_of HT_.out (g0_)) (fun _ _ _ h => h) (Or.inr ⟨by rfl, rfl⟩) ?_ ?_
          rotate_left
          ·simp only [Act.put, List.setIfInBounds_toArray, List.set_cons_zero, List.set_cons_succ, i64_w, i32_w]
           rfl
          refine pure_ (i := 23) (N := some 49) (v := undef) (a' := ?_) (tl_ 30 16777215) rfl rfl (any_of HT_.out (g0_)) (fun _ _ _ h => h) (Or.inr ⟨by rfl, rfl⟩) ?_ ?_
          rotate_left
          ·simp only [Act.put, List.setIfInBounds_toArray, List.set_cons_zero, List.set_cons_succ, i64_w, i32_w]
           rfl
          refine pure_ (i := 24) (N := some 50) (v := undef) (a' := ?_) (tl_ 30 33554431) rfl rfl (any_of HT_.out (g0_)) (fun _ _ _ h => h) (Or.inr ⟨by rfl, rfl⟩) ?_ ?_
          rotate_left
          ·simp only [Act.put, List.setIfInBounds_toArray, List.set_cons_zero, List.set_cons_succ, i64_w, i32_w]
           rfl
          refine pure_ (i := 25) (N := some 51) (v := undef) (a' := ?_) (tl_ 30 67108863) rfl rfl (any_of HT_.out (g0_)) (fun _ _ _ h => h) (Or.inr ⟨by rfl, rfl⟩) ?_ ?_
          rotate_left
          ·simp only [Act.put, List.setIfInBounds_toArray, List.set_cons_zero, List.set_cons_succ, i64_w, i32_w]
           rfl
          refine pure_ (i := 26) (N := some 52) (v := undef) (a' := ?_) (tl_ 30 134217727) rfl rfl (any_of HT_.out (g0_)) (fun _ _ _ h => h) (Or.inr ⟨by rfl, rfl⟩) ?_ ?_
          rotate_left
          ·simp only [Act.put, List.setIfInBounds_toArray, List.set_cons_zero, List.set_cons_succ, i64_w, i32_w]
           rfl
          refine pure_ (i := 27) (N := some 53) (v := undef) (a' := ?_) (tl_ 30 268435455) rfl rfl (any_of HT_.out (g0_)) (fun _ _ _ h => h) (Or.inr ⟨by rfl, rfl⟩) ?_ ?_
          rotate_left
          ·simp only [Act.put, List.setIfInBounds_toArray, List.set_cons_zero, List.set_cons_succ, i64_w, i32_w]
           rfl
          refine pure_ (i := 28) (N := some 54) (v := undef) (a' := ?_) (tl_ 30 536870911) rfl rfl (any_of HT_.out (g0_)) (fun _ _ _ h => h) (Or.inr ⟨by rfl, rfl⟩) ?_ ?_
          rotate_left
          ·simp only [Act.put, List.setIfInBounds_toArray, List.set_cons_zero, List.set_cons_succ, i64_w, i32_w]
           rfl
          refine pw_ 29 55 (tl_ 30 1073741823) rfl rfl ?_
          refine done_ (done_of HT_.out (g0_)) ?_
          try go_wp2
          go_meet
          case rel => exact ⟨_, (true), (g3_), H', ⟨g47_⟩, ⟨uf0_ BK193⟩, ⟨spec_BookOk.calls_q0⟩⟩
        ·rw [if_neg c12] at H
         exact absurd H (by simp)
       case rest =>
        clear HC10
        try clear c1
        try clear p1
        try clear q1
        try clear hx1
        try clear p2
        try clear c9
        try clear c12
        try clear c14
        try clear c15
        try clear c16
        try clear c16b0
        try clear c16b1
        try clear c16b2
        try clear c17
        try clear c19
        try clear p19
        try clear q19
        try clear hx19
        try clear hx195_0
        try clear hx197_0
        try clear p195
        try clear p197
        try clear q195
        try clear q197
        obtain ⟨kq, x55_9, rfl, HA, HJ9, BK193, HB⟩ := hcut
        cases kq with
        | zero => exact absurd HA.out (by simp [spec_BookOk.j2])
        | succ kj9 =>
         have H := HA.out
         clear HA
         simp only [spec_BookOk.j2] at H
         by_cases c21 : x55_9 = true
         ·subst c21
          replace H := ifp_ H
          obtain rfl := Option.some.inj H
          go_wp2
          go_ret
          exact ⟨g4_, spec_BookOk.calls_q0⟩
         ·replace c21 := Bool.eq_false_iff.mpr c21
          subst c21
          replace H := ifn_ H
          have H' := Aside0.mk H
          clear H
          go_wp2
          go_loopg [4] kj9 (fun kq v4 w' => ∃ (x4_4 : Int), v4 = .int .i64 x4_4 ∧ Aside0 (spec_BookOk.l1 kq x3_2 x4_4 l0_0 l0_1 = some r) ∧ Aside0 (kq ≤ kj9) ∧ Aside0 (w'.heap[gb193]? = some (.cells #[(.slice A0_0 l0_0.length c0_0), (.slice A0_1 l0_1.length c0_1)] 26 (0, 0))) ∧ Aside0 (Below w.heap.size w w'))
          case atStart => exact ⟨(0), (g3_), H', ⟨Nat.le_refl _⟩, ⟨uf0_ BK193⟩, ⟨spec_BookOk.calls_q0⟩⟩
          case round =>
           clear H'
           try clear c1
           try clear p1
           try clear q1
           try clear hx1
           try clear c2
           try clear p2
           try clear c9
           try clear c12
           try clear c14
           try clear c15
           try clear c16
           try clear c16b0
           try clear c16b1
           try clear c16b2
           try clear c17
           try clear c19
           try clear p19
           try clear q19
           try clear hx19
           try clear c21
           try clear hx195_0
           try clear hx197_0
           try clear p1
           try clear p19
           try clear p195
           try clear p197
           try clear p2
           try clear q1
           try clear q19
           try clear q195
           try clear q197
           obtain ⟨x4_4, rfl, HA, HK4, BK193, HB⟩ := hrel
           cases gk with
           | zero => exact absurd HA.out (by simp [spec_BookOk.l1])
           | succ k4 =>
            have H := HA.out
            clear HA
            simp only [spec_BookOk.l1] at H
            by_cases c22 : 0 ≤ x3_2
            ·rw [if_pos c22] at H
             have c22b0 := decide_eq_true c22
             clear c22
             by_cases c23 : x3_2 < (l0_1.length : Int)
             ·rw [if_pos c23] at H
              have c23b0 := decide_eq_true c23
              clear c23
              by_cases c24 : x4_4 < ((rd_L2 l0_1 x3_2).length : Int)
              ·rw [if_pos c24] at H
               have c24b0 := decide_eq_true c24
               clear c24
               by_cases c25 : 0 ≤ x4_4
               ·rw [if_pos c25] at H
                have c25b0 := decide_eq_true c25
                clear c25
                obtain ⟨t203, A26, H⟩ := bind_ H
                by_cases c27 : t203 = true
                ·subst c27
                 replace H := ifp_ H
                 have H' := Aside0.mk H
                 clear H
                 obtain ⟨hcz28_0, hcz28_1, hfz28_0, hfz28_1⟩ := blk2_ BK193
                 have p200 : 0 ≤ (x3_2 : Int) := of_decide_eq_true (g1_)
                 have q200 : x3_2 < (l0_1.length : Int) := of_decide_eq_true (g1_)
                 obtain ⟨ad200, A200_0, c200_0, e200, hx200_0, hl200_0, hi200_0⟩ := at_L2 HR0_1.out x3_2 p200 q200
                 cases e200
                 replace hx200_0 := cl_ HB hx200_0
                 have HR200_0 := Aside0.mk hi200_0
                 have HC200_0 := Aside0.mk hl200_0
                 clear hi200_0 hl200_0
                 replace p200 := eq_true p200
                 replace q200 := eq_true q200
                 have p201 : 0 ≤ (x3_2 : Int) := of_decide_eq_true (g1_)
                 have q201 : x3_2 < (l0_1.length : Int) := of_decide_eq_true (g1_)
                 obtain ⟨ad201, A201_0, c201_0, e201, hx201_0, hl201_0, hi201_0⟩ := at_L2 HR0_1.out x3_2 p201 q201
                 obtain rfl : ad200 = ad201 := (by injection e201)
                 replace hx201_0 := cl_ HB hx201_0
                 have HR201_0 := Aside0.mk hi201_0
                 have HC201_0 := Aside0.mk hl201_0
                 clear hi201_0 hl201_0
                 replace p201 := eq_true p201
                 replace q201 := eq_true q201
                 have ea_ := Option.some.inj (hx200_0.symm.trans hx201_0)
                 injection ea_ with ea_ en_ ec_
                 subst ea_
                 subst ec_
                 clear en_
                 have p202 : 0 ≤ (x4_4 : Int) := of_decide_eq_true (g1_)
                 have q202 : x4_4 < ((rd_L2 l0_1 x3_2).length : Int) := of_decide_eq_true (g1_)
                 obtain ⟨ad202, e202, hx202_0⟩ := Kd.at_int HR201_0.out x4_4 p202 q202
                 cases e202
                 replace hx202_0 := cl_ HB hx202_0
                 replace p202 := eq_true p202
                 replace q202 := eq_true q202
                 go_wp2_with (first | ((with_reducible refine gate_callee (f := 90) rfl ?_); refine goesL_ (some 74) rfl rfl Try.func90 k_ rfl #[.int .i64 (rd (rd_L2 l0_1 x3_2) x4_4), .int .i64 0, .int .i64 9] rfl (g2_) ?_; (with_reducible refine (spec_l1In.calls (rd (rd_L2 l0_1 x3_2) x4_4) 0 9 true _ A26.out).mono ?_); rintro e w' ⟨rfl, ⟨nd, rfl⟩⟩; refine ⟨_, rfl, ?_⟩))
                 go_roundg k4
                 case measure => have := HJ1.out; have := HK2.out; have := HJ9.out; have := HK4.out; omega
                 case rel => exact ⟨(wrap64 (x4_4 + 1)), (g3_), H', ⟨by have := HJ1.out; have := HK2.out; have := HJ9.out; have := HK4.out; omega⟩, ⟨uf0_ BK193⟩, ⟨spec_BookOk.calls_q0⟩⟩
                ·replace c27 := Bool.eq_false_iff.mpr c27
                 subst c27
                 replace H := ifn_ H
                 obtain rfl := Option.some.inj H
                 obtain ⟨hcz29_0, hcz29_1, hfz29_0, hfz29_1⟩ := blk2_ BK193
                 have p200 : 0 ≤ (x3_2 : Int) := of_decide_eq_true (g1_)
                 have q200 : x3_2 < (l0_1.length : Int) := of_decide_eq_true (g1_)
                 obtain ⟨ad200, A200_0, c200_0, e200, hx200_0, hl200_0, hi200_0⟩ := at_L2 HR0_1.out x3_2 p200 q200
                 cases e200
                 replace hx200_0 := cl_ HB hx200_0
                 have HR200_0 := Aside0.mk hi200_0
                 have HC200_0 := Aside0.mk hl200_0
                 clear hi200_0 hl200_0
                 replace p200 := eq_true p200
                 replace q200 := eq_true q200
                 have p201 : 0 ≤ (x3_2 : Int) := of_decide_eq_true (g1_)
                 have q201 : x3_2 < (l0_1.length : Int) := of_decide_eq_true (g1_)
                 obtain ⟨ad201, A201_0, c201_0, e201, hx201_0, hl201_0, hi201_0⟩ := at_L2 HR0_1.out x3_2 p201 q201
                 obtain rfl : ad200 = ad201 := (by injection e201)
                 replace hx201_0 := cl_ HB hx201_0
                 have HR201_0 := Aside0.mk hi201_0
                 have HC201_0 := Aside0.mk hl201_0
                 clear hi201_0 hl201_0
                 replace p201 := eq_true p201
                 replace q201 := eq_true q201
                 have ea_ := Option.some.inj (hx200_0.symm.trans hx201_0)
                 injection ea_ with ea_ en_ ec_
                 subst ea_
                 subst ec_
                 clear en_
                 have p202 : 0 ≤ (x4_4 : Int) := of_decide_eq_true (g1_)
                 have q202 : x4_4 < ((rd_L2 l0_1 x3_2).length : Int) := of_decide_eq_true (g1_)
                 obtain ⟨ad202, e202, hx202_0⟩ := Kd.at_int HR201_0.out x4_4 p202 q202
                 cases e202
                 replace hx202_0 := cl_ HB hx202_0
                 replace p202 := eq_true p202
                 replace q202 := eq_true q202
                 go_wp2_with (first | ((with_reducible refine gate_callee (f := 90) rfl ?_); refine goesL_ (some 74) rfl rfl Try.func90 k_ rfl #[.int .i64 (rd (rd_L2 l0_1 x3_2) x4_4), .int .i64 0, .int .i64 9] rfl (g2_) ?_; (with_reducible refine (spec_l1In.calls (rd (rd_L2 l0_1 x3_2) x4_4) 0 9 false _ A26.out).mono ?_); rintro e w' ⟨rfl, ⟨nd, rfl⟩⟩; refine ⟨_, rfl, ?_⟩))
                 go_ret
                 exact ⟨g4_, spec_BookOk.calls_q0⟩
               ·rw [if_neg c25] at H
                exact absurd H (by simp)
              ·rw [if_neg c24] at H
               have c24b0 := decide_eq_false c24
               clear c24
               have H' := Aside0.mk H
               clear H
               obtain ⟨hcz30_0, hcz30_1, hfz30_0, hfz30_1⟩ := blk2_ BK193
               have p200 : 0 ≤ (x3_2 : Int) := of_decide_eq_true (g1_)
               have q200 : x3_2 < (l0_1.length : Int) := of_decide_eq_true (g1_)
               obtain ⟨ad200, A200_0, c200_0, e200, hx200_0, hl200_0, hi200_0⟩ := at_L2 HR0_1.out x3_2 p200 q200
               cases e200
               replace hx200_0 := cl_ HB hx200_0
               have HR200_0 := Aside0.mk hi200_0
               have HC200_0 := Aside0.mk hl200_0
               clear hi200_0 hl200_0
               replace p200 := eq_true p200
               replace q200 := eq_true q200
               go_wp2
               go_roundg k4
               case measure => have := HJ1.out; have := HK2.out; have := HJ9.out; have := HK4.out; omega
               case rel => exact ⟨(wrap64 (x3_2 + 1)), (g3_), H', ⟨by have := HJ1.out; have := HK2.out; have := HJ9.out; have := HK4.out; omega⟩, ⟨uf0_ BK193⟩, ⟨spec_BookOk.calls_q0⟩⟩
             ·rw [if_neg c23] at H
              exact absurd H (by simp)
            ·rw [if_neg c22] at H
             exact absurd H (by simp)
      ·rw [if_neg c9] at H
       have c9b0 := decide_eq_false c9
       clear c9
       obtain rfl := Option.some.inj H
       obtain ⟨hcz31_0, hcz31_1, hfz31_0, hfz31_1⟩ := blk2_ BK193
       go_wp2
       go_ret
       exact ⟨g4_, spec_BookOk.calls_q0⟩
end Go.Proofs.Ytigpmfoagkhaeaa.PU

namespace Go.Proofs.Ytigpmfoagkhaeaa.PU
open Go.RowKit Go.Proofs.YtigpmfoagkhaeaaW.PrintWords Go.Proofs.YtigpmfoagkhaeaaW.PrintLast Go.Proofs.YtigpmfoagkhaeaaW.PrintMore Go.Proofs.Ytigpmfoagkhaeaa.Qd
attribute [local go_sem] max2_int min2_int max_two min_two max_three min_three max_four min_four   -- for this text's walks alone
set_option linter.unusedVariables false
set_option linter.unusedSimpArgs false
def spec_NonePaid.l0 : Nat → List (S36) → Int → List Int → List (List Int) → Option ((List (S36)))
 | 0, _, _, _, _ => none
 | k + 1, x3, x4, x205000, x205001 => if x4 < (x205000.length : Int) then ((spec_BookOk.f k x205000 x205001).bind fun t208 => (if t208 = true then (if x3.length < 8796093022208 then (spec_NonePaid.l0 k (x3 ++ [(⟨0, 1⟩ : S36)]) (wrap64 (x4 + 1)) x205000 x205001) else (none)) else (some x3))) else (some x3)
def spec_NonePaid.f (k : Nat) (l0_0 : List Int) (l0_1 : List (List Int)) : Option ((List (S36))) := spec_NonePaid.l0 k (([] : List (S36))) 0 l0_0 l0_1
theorem spec_NonePaid.mono_l : ∀ k, (∀ y0 y1 y2 y3, LeO (spec_NonePaid.l0 k y0 y1 y2 y3) (spec_NonePaid.l0 (k + 1) y0 y1 y2 y3))
 | 0 => fun _ _ _ _ r h => by simp [spec_NonePaid.l0] at h
 | k + 1 => by
  have ih0 := spec_NonePaid.mono_l k
  ·intro y0 y1 y2 y3
   unfold spec_NonePaid.l0
   repeat' first
   | (with_reducible exact ih0 _ _ _ _)
   | (with_reducible exact spec_BookOk.mono _ _ _)
   | (with_reducible exact LeO.refl _)
   | (with_reducible exact LeO.none _)
   | (with_reducible refine LeO.ite ?_ ?_)
   | (with_reducible refine LeO.bind ?_ (fun _ => ?_))
   | exact ih0 _ _ _ _
   | exact spec_BookOk.mono _ _ _
   | exact LeO.none _
   | refine LeO.ite ?_ ?_
   | refine LeO.bind ?_ (fun _ => ?_)
theorem spec_NonePaid.mono : ∀ a0 a1 k, LeO (spec_NonePaid.f k a0 a1) (spec_NonePaid.f (k + 1) a0 a1) := by
 intro a0 a1 k
 have ih0 := spec_NonePaid.mono_l k
 unfold spec_NonePaid.f
 repeat' first
   | (with_reducible exact ih0 _ _ _ _)
   | (with_reducible exact spec_BookOk.mono _ _ _)
   | (with_reducible exact LeO.refl _)
   | (with_reducible exact LeO.none _)
   | (with_reducible refine LeO.ite ?_ ?_)
   | (with_reducible refine LeO.bind ?_ (fun _ => ?_))
   | exact ih0 _ _ _ _
   | exact spec_BookOk.mono _ _ _
   | exact LeO.none _
   | refine LeO.ite ?_ ?_
   | refine LeO.bind ?_ (fun _ => ?_)
theorem spec_NonePaid.calls_q0 {p : Prop} (h : p := by repeat (first | (with_reducible first | exact HB.out | apply below_alloc | apply pw_below_drewN | apply below_drew1 | refine below_set ?_ GE204.out) | exact HB.out)) : p := h
set_option maxHeartbeats 8000000 in
set_option maxRecDepth 100000 in
theorem spec_NonePaid.calls (k : Nat) (A0_0 : Option Addr) (c0_0 : Nat) (l0_0 : List Int) (A0_1 : Option Addr) (c0_1 : Nat) (l0_1 : List (List Int)) (r : List (S36)) (w : World) (hr0_0 : Kd.C (Kd.int .i64) w A0_0 l0_0.length l0_0) (hc0_0 : l0_0.length ≤ c0_0) (hr0_1 : Kd.C (Kd.slice 3 (Kd.int .i64)) w A0_1 l0_1.length l0_1) (hc0_1 : l0_1.length ≤ c0_1) (h : spec_NonePaid.f k l0_0 l0_1 = some r) :
  Calls Try.prog 15 #[.agg #[.slice A0_0 l0_0.length c0_0, .slice A0_1 l0_1.length c0_1]] w fun e w' => ∃ v0_ : Value, e = .returned (v0_) ∧ Kd.R k36 36 w' w.heap.size (fun _ => True) v0_ r ∧ Below w.heap.size w w' := by
 have hu26 := Try.underlying26
 have hu36 := Try.underlying36
 have HR0_0 := Aside0.mk hr0_0
 have HC0_0 := Aside0.mk hc0_0
 clear hr0_0 hc0_0
 have HR0_1 := Aside0.mk hr0_1
 have HC0_1 := Aside0.mk hc0_1
 clear hr0_1 hc0_1
 have HB := Aside0.mk (Below.refl w.heap.size w)
 have H : (spec_NonePaid.l0 k (([] : List (S36))) 0 l0_0 l0_1) = some r := h
 clear h
 obtain ⟨y205, hy205⟩ : ∃ y_ : List (S36), y_ = (([] : List (S36))) := ⟨_, rfl⟩
 replace H : (spec_NonePaid.l0 k y205 0 l0_0 l0_1) = some r := by first | (rw [hy205]; with_reducible exact H) | (have H2_ := (Option.bind_some _ _).symm.trans H; rw [hy205]; with_reducible exact H2_) | (have H2_ := (Option.bind_some _ _).symm.trans H; with_reducible exact H2_) | with_reducible exact H | (rw [hy205]; exact H) | exact H
 have Ny205 := Aside0.mk hy205
 clear hy205
 have H' := Aside0.mk H
 clear H
 go_enter Try.func15, Try.ntmps15
 go_wp2_with (first | ((with_reducible refine gate_dst (N := 1) rfl ?_); refine bx_ (N := 1) #[.slice A0_0 l0_0.length c0_0, .slice A0_1 l0_1.length c0_1] 26 ?_; intro gb204 hg w2 hbox hb; have BK204 := Aside0.mk (hbox); have GW204 := Aside0.mk ((by rw [hg]; exact (below_size (spec_NonePaid.calls_q0)) : w.heap.size ≤ gb204)); have GE204 := Aside0.mk ((by rw [hg]; exact (below_size (spec_NonePaid.calls_q0)) : w.heap.size ≤ gb204)); replace HB := Aside0.mk (below_step (spec_NonePaid.calls_q0) hb); clear hb hbox hg) | ((with_reducible refine gate_dst (N := 5) rfl ?_); refine Kd.R_lit k36 _ 36 ?hg (N := 5) ?hd (xs := ([] : List (S36))) (inner := []) (ok := fun _ => True) (okp := fun _ => True) ?hr ?hp (fun _ hk => hk) trivial (Below.refl _ _) (Nat.le_refl _) (by simp) ?_; (case hd => rfl); (case hg => rfl); (case hr => first | (go_simp; done) | (go_simp; rfl)); (case hp => exact (Reps.none _ _)); intro v206 w3 ho4 hb hg_ hnew_; clear hg_ hnew_; (first | rw [← Ny205.out] at ho4 | (simp only [Int.reduceToNat] at ho4; rw [← Ny205.out] at ho4)); have HO207 := Aside0.mk (Kd.R_lower ho4 (below_size (spec_NonePaid.calls_q0))); replace BK204 := Aside0.mk (blk_below (g := gb204) (o := .cells #[.slice A0_0 l0_0.length c0_0, .slice A0_1 l0_1.length c0_1] 26 (0, 0)) (uf0_ BK204) hb); replace HB := Aside0.mk (below_step (spec_NonePaid.calls_q0) hb); clear hb ho4))
 go_loopg [3, 4] k (fun kq v3 v4 w' => ∃ (x3_1 : List (S36)) (x4_1 : Int), v4 = .int .i64 x4_1 ∧ Aside0 (spec_NonePaid.l0 kq x3_1 x4_1 l0_0 l0_1 = some r) ∧ Aside0 (kq ≤ k) ∧ Aside0 (Kd.R k36 36 w' w.heap.size (fun _ => True) v3 x3_1) ∧ Aside0 (w'.heap[gb204]? = some (.cells #[(.slice A0_0 l0_0.length c0_0), (.slice A0_1 l0_1.length c0_1)] 26 (0, 0))) ∧ Aside0 (Below w.heap.size w w'))
 case atStart => exact ⟨(y205), (0), (g3_), H', ⟨Nat.le_refl _⟩, ⟨uf1_ HO207⟩, ⟨uf0_ BK204⟩, ⟨spec_NonePaid.calls_q0⟩⟩
 case round =>
  clear H'
  try clear c1
  try clear p2
  obtain ⟨x3_1, x4_1, rfl, HA, HK1, HO_3, BK204, HB⟩ := hrel
  cases gk with
  | zero => exact absurd HA.out (by simp [spec_NonePaid.l0])
  | succ k1 =>
   have H := HA.out
   clear HA
   simp only [spec_NonePaid.l0] at H
   by_cases c5 : x4_1 < (l0_0.length : Int)
   ·rw [if_pos c5] at H
    have c5b0 := decide_eq_true c5
    clear c5
    obtain ⟨t208, A6, H⟩ := bind_ H
    by_cases c7 : t208 = true
    ·subst c7
     replace H := ifp_ H
     by_cases c8 : x3_1.length < 8796093022208
     ·rw [if_pos c8] at H
      have LMc8 := Aside0.mk c8
      clear c8
      obtain ⟨y209, hy209⟩ : ∃ y_ : List (S36), y_ = (x3_1 ++ [(⟨0, 1⟩ : S36)]) := ⟨_, rfl⟩
      replace H : (spec_NonePaid.l0 k1 y209 (wrap64 (x4_1 + 1)) l0_0 l0_1) = some r := by first | (rw [hy209]; with_reducible exact H) | (have H2_ := (Option.bind_some _ _).symm.trans H; rw [hy209]; with_reducible exact H2_) | (have H2_ := (Option.bind_some _ _).symm.trans H; with_reducible exact H2_) | with_reducible exact H | (rw [hy209]; exact H) | exact H
      have Ny209 := Aside0.mk hy209
      clear hy209
      have H' := Aside0.mk H
      clear H
      obtain ⟨hcz9_0, hcz9_1, hfz9_0, hfz9_1⟩ := blk2_ BK204
      go_wp2_with (first | (go_at_call 56; (with_reducible refine (spec_BookOk.calls k1 _ _ l0_0 _ _ l0_1 true _ ?side1 ?side2 ?side3 ?side4 A6.out).mono ?_); (case side1 => exact uf4_ HR0_0); (case side2 => exact HC0_0.out); (case side3 => exact uf4_ HR0_1); (case side4 => exact HC0_1.out); rintro e w10 ⟨rfl, hb⟩; replace HO_3 := Aside0.mk (Kd.R_below (uf1_ HO_3) hb); replace BK204 := Aside0.mk (blk_below (g := gb204) (o := .cells #[.slice A0_0 l0_0.length c0_0, .slice A0_1 l0_1.length c0_1] 26 (0, 0)) (uf0_ BK204) hb); replace HB := Aside0.mk (below_step (spec_NonePaid.calls_q0) hb); (try clear hb); (try clear hk hi)) | ((with_reducible refine gate_builtin (b := .append) (xs := #[.tmp 17, .tmp 19]) rfl ?_); at_builtin; refine Kd.R_append k36 (w0 := w) w.heap.size rfl (.tmp 17) (.tmp 19) 28 36 (.agg #[(.int .i64 0), (.int .i64 0)]) 16 rfl Try.underlying28 info36 rfl (by decide) (by omega) u3 x3_1 (⟨0, 1⟩ : S36) [.int .i64 0, .int .i64 1] (fun _ => True) (fun _ => False) rfl rfl ?aP (fun _ hk => hk.elim) ?aF ?aO ?aB ?aS ?aL ?_; (case aP => exact k36_mkM _ _ _ (⟨0, 1⟩ : S36)); (case aB => exact (spec_NonePaid.calls_q0)); (case aF => exact (fun _ _ => trivial)); (case aO => exact (uf1_ HO_3)); (case aS => exact (below_size (spec_NonePaid.calls_q0))); (case aL => have := LMc8.out; omega); intro v210 w11 ho hb hg hat; rw [← Ny209.out] at ho; replace BK204 := Aside0.mk (blk_grown (g := gb204) (o := .cells #[.slice A0_0 l0_0.length c0_0, .slice A0_1 l0_1.length c0_1] 26 (0, 0)) (uf0_ BK204) hg (Kd.R_ne HO_3.out BK204.out (by decide))); replace HB := Aside0.mk (hb); have HO211 := Aside0.mk (ho); clear HO_3; clear ho hb hg hat))
      go_roundg k1
      case measure => have := HK1.out; omega
      case rel => exact ⟨(y209), (wrap64 (x4_1 + 1)), (g3_), H', ⟨g9_⟩, ⟨uf1_ HO211⟩, ⟨uf0_ BK204⟩, ⟨spec_NonePaid.calls_q0⟩⟩
     ·rw [if_neg c8] at H
      exact absurd H (by simp)
    ·replace c7 := Bool.eq_false_iff.mpr c7
     subst c7
     replace H := ifn_ H
     obtain rfl := Option.some.inj H
     obtain ⟨hcz12_0, hcz12_1, hfz12_0, hfz12_1⟩ := blk2_ BK204
     go_wp2_with (first | (go_at_call 56; (with_reducible refine (spec_BookOk.calls k1 _ _ l0_0 _ _ l0_1 false _ ?side1 ?side2 ?side3 ?side4 A6.out).mono ?_); (case side1 => exact uf4_ HR0_0); (case side2 => exact HC0_0.out); (case side3 => exact uf4_ HR0_1); (case side4 => exact HC0_1.out); rintro e w13 ⟨rfl, hb⟩; replace HO_3 := Aside0.mk (Kd.R_below (uf1_ HO_3) hb); replace BK204 := Aside0.mk (blk_below (g := gb204) (o := .cells #[.slice A0_0 l0_0.length c0_0, .slice A0_1 l0_1.length c0_1] 26 (0, 0)) (uf0_ BK204) hb); replace HB := Aside0.mk (below_step (spec_NonePaid.calls_q0) hb); (try clear hb); (try clear hk hi)))
     go_ret
     exact ⟨_, g4_, uf1_ HO_3, spec_NonePaid.calls_q0⟩
   ·rw [if_neg c5] at H
    have c5b0 := decide_eq_false c5
    clear c5
    obtain rfl := Option.some.inj H
    obtain ⟨hcz14_0, hcz14_1, hfz14_0, hfz14_1⟩ := blk2_ BK204
    go_wp2
    go_ret
    exact ⟨_, g4_, uf1_ HO_3, spec_NonePaid.calls_q0⟩
end Go.Proofs.Ytigpmfoagkhaeaa.PU

namespace Go.Proofs.Ytigpmfoagkhaeaa.PU
open Go.RowKit Go.Proofs.YtigpmfoagkhaeaaW.PrintWords Go.Proofs.YtigpmfoagkhaeaaW.PrintLast Go.Proofs.YtigpmfoagkhaeaaW.PrintMore Go.Proofs.Ytigpmfoagkhaeaa.Qd
attribute [local go_sem] max2_int min2_int max_two min_two max_three min_three max_four min_four   -- for this text's walks alone
set_option linter.unusedVariables false
set_option linter.unusedSimpArgs false
def impl_BookOk.f (k : Nat) (l0_0 : List Int) (l0_1 : List (List Int)) : Option (Bool) := (impl_isBook.f k l0_0 l0_1).bind fun t213 => (some t213)
theorem impl_BookOk.mono : ∀ a0 a1 k, LeO (impl_BookOk.f k a0 a1) (impl_BookOk.f (k + 1) a0 a1) := by
 intro a0 a1 k
 unfold impl_BookOk.f
 repeat' first
   | (with_reducible exact impl_isBook.mono _ _ _)
   | (with_reducible exact LeO.refl _)
   | (with_reducible exact LeO.none _)
   | (with_reducible refine LeO.ite ?_ ?_)
   | (with_reducible refine LeO.bind ?_ (fun _ => ?_))
   | exact impl_isBook.mono _ _ _
   | exact LeO.none _
   | refine LeO.ite ?_ ?_
   | refine LeO.bind ?_ (fun _ => ?_)
theorem impl_BookOk.calls_q0 {p : Prop} (h : p := by repeat (first | (with_reducible first | exact HB.out | apply below_alloc | apply pw_below_drewN | apply below_drew1 | refine below_set ?_ GE212.out) | exact HB.out)) : p := h
set_option maxHeartbeats 8000000 in
set_option maxRecDepth 100000 in
theorem impl_BookOk.calls (k : Nat) (A0_0 : Option Addr) (c0_0 : Nat) (l0_0 : List Int) (A0_1 : Option Addr) (c0_1 : Nat) (l0_1 : List (List Int)) (r : Bool) (w : World) (hr0_0 : Kd.C (Kd.int .i64) w A0_0 l0_0.length l0_0) (hc0_0 : l0_0.length ≤ c0_0) (hr0_1 : Kd.C (Kd.slice 3 (Kd.int .i64)) w A0_1 l0_1.length l0_1) (hc0_1 : l0_1.length ≤ c0_1) (h : impl_BookOk.f k l0_0 l0_1 = some r) :
  Calls Try.prog 16 #[.agg #[.slice A0_0 l0_0.length c0_0, .slice A0_1 l0_1.length c0_1]] w fun e w' => e = .returned (.bool r) ∧ Below w.heap.size w w' := by
 have hu26 := Try.underlying26
 have HR0_0 := Aside0.mk hr0_0
 have HC0_0 := Aside0.mk hc0_0
 clear hr0_0 hc0_0
 have HR0_1 := Aside0.mk hr0_1
 have HC0_1 := Aside0.mk hc0_1
 clear hr0_1 hc0_1
 have HB := Aside0.mk (Below.refl w.heap.size w)
 have H : ((impl_isBook.f k l0_0 l0_1).bind fun t213 => (some t213)) = some r := h
 clear h
 obtain ⟨t213, A2, H⟩ := bind_ H
 obtain rfl := Option.some.inj H
 go_enter Try.func16, Try.ntmps16
 go_wp2_with (first | ((with_reducible refine gate_dst (N := 1) rfl ?_); refine bx_ (N := 1) #[.slice A0_0 l0_0.length c0_0, .slice A0_1 l0_1.length c0_1] 26 ?_; intro gb212 hg w3 hbox hb; have BK212 := Aside0.mk (hbox); have GW212 := Aside0.mk ((by rw [hg]; exact (below_size (impl_BookOk.calls_q0)) : w.heap.size ≤ gb212)); have GE212 := Aside0.mk ((by rw [hg]; exact (below_size (impl_BookOk.calls_q0)) : w.heap.size ≤ gb212)); replace HB := Aside0.mk (below_step (impl_BookOk.calls_q0) hb); clear hb hbox hg; obtain ⟨hcz4_0, hcz4_1, hfz4_0, hfz4_1⟩ := blk2_ BK212) | ((with_reducible refine gate_callee (f := 54) rfl ?_); refine goesL_ (some 4) rfl rfl Try.func54 k_ rfl #[.agg #[.slice A0_0 l0_0.length c0_0, .slice A0_1 l0_1.length c0_1]] rfl (g2_) ?_; (with_reducible refine (impl_isBook.calls k _ _ l0_0 _ _ l0_1 t213 _ ?side1 ?side2 ?side3 ?side4 A2.out).mono ?_); (case side1 => exact uf4_ HR0_0); (case side2 => exact HC0_0.out); (case side3 => exact uf4_ HR0_1); (case side4 => exact HC0_1.out); rintro e w5 ⟨rfl, hb⟩; refine ⟨_, rfl, ?_⟩; replace BK212 := Aside0.mk (blk_below (g := gb212) (o := .cells #[.slice A0_0 l0_0.length c0_0, .slice A0_1 l0_1.length c0_1] 26 (0, 0)) (uf0_ BK212) hb); replace HB := Aside0.mk (below_step (impl_BookOk.calls_q0) hb); (try clear hb); (try clear hk hi)))
 go_ret
 exact ⟨g4_, impl_BookOk.calls_q0⟩
end Go.Proofs.Ytigpmfoagkhaeaa.PU

namespace Go.Proofs.Ytigpmfoagkhaeaa.PU
open Go.RowKit Go.Proofs.YtigpmfoagkhaeaaW.PrintWords Go.Proofs.YtigpmfoagkhaeaaW.PrintLast Go.Proofs.YtigpmfoagkhaeaaW.PrintMore Go.Proofs.Ytigpmfoagkhaeaa.Qd
attribute [local go_sem] max2_int min2_int max_two min_two max_three min_three max_four min_four   -- for this text's walks alone
set_option linter.unusedVariables false
set_option linter.unusedSimpArgs false
def impl_isNumber.f (a0 : Int) : Option (Bool) := if a0 ≥ (-1000000000) then (some (decide (a0 ≤ 1000000000))) else (some false)
set_option maxHeartbeats 8000000 in
set_option maxRecDepth 100000 in
theorem impl_isNumber.calls (a0 : Int) (r : Bool) (w : World) (h : impl_isNumber.f a0 = some r) :
  Calls Try.prog 96 #[.int .i64 a0] w fun e w' => e = .returned (.bool r) ∧ Drawn0 w w' := by
 have H : (if a0 ≥ (-1000000000) then (some (decide (a0 ≤ 1000000000))) else (some false)) = some r := h
 clear h
 by_cases c2 : a0 ≥ (-1000000000)
 ·rw [if_pos c2] at H
  have c2b0 := decide_eq_true c2
  clear c2
  obtain rfl := Option.some.inj H
  go_enter Try.func96, Try.ntmps96
  go_wp2
  go_ret
  exact ⟨g3_, g5_⟩
 ·rw [if_neg c2] at H
  have c2b0 := decide_eq_false c2
  clear c2
  obtain rfl := Option.some.inj H
  go_enter Try.func96, Try.ntmps96
  go_wp2
  go_ret
  exact ⟨g3_, g5_⟩
end Go.Proofs.Ytigpmfoagkhaeaa.PU

namespace Go.Proofs.Ytigpmfoagkhaeaa.PU
open Go.RowKit Go.Proofs.YtigpmfoagkhaeaaW.PrintWords Go.Proofs.YtigpmfoagkhaeaaW.PrintLast Go.Proofs.YtigpmfoagkhaeaaW.PrintMore Go.Proofs.Ytigpmfoagkhaeaa.Qd
attribute [local go_sem] max2_int min2_int max_two min_two max_three min_three max_four min_four   -- for this text's walks alone
set_option linter.unusedVariables false
set_option linter.unusedSimpArgs false
def impl_gcd.l0 : Nat → Int → Int → Option (Int)
 | 0, _, _ => none
 | k + 1, x0, x1 => if x1 = 0 then (some (mx x0 (wrap64 (-x0)))) else (impl_gcd.l0 k x1 (Int.tmod x0 x1))
def impl_gcd.f (k : Nat) (a0 : Int) (a1 : Int) : Option (Int) := impl_gcd.l0 k a0 a1
theorem impl_gcd.mono_l : ∀ k, (∀ y0 y1, LeO (impl_gcd.l0 k y0 y1) (impl_gcd.l0 (k + 1) y0 y1))
 | 0 => fun _ _ r h => by simp [impl_gcd.l0] at h
 | k + 1 => by
  have ih0 := impl_gcd.mono_l k
  ·intro y0 y1
   unfold impl_gcd.l0
   repeat' first
   | (with_reducible exact ih0 _ _)
   | (with_reducible exact LeO.refl _)
   | (with_reducible exact LeO.none _)
   | (with_reducible refine LeO.ite ?_ ?_)
   | (with_reducible refine LeO.bind ?_ (fun _ => ?_))
   | exact ih0 _ _
   | exact LeO.none _
   | refine LeO.ite ?_ ?_
   | refine LeO.bind ?_ (fun _ => ?_)
theorem impl_gcd.mono : ∀ a0 a1 k, LeO (impl_gcd.f k a0 a1) (impl_gcd.f (k + 1) a0 a1) := by
 intro a0 a1 k
 have ih0 := impl_gcd.mono_l k
 unfold impl_gcd.f
 repeat' first
   | (with_reducible exact ih0 _ _)
   | (with_reducible exact LeO.refl _)
   | (with_reducible exact LeO.none _)
   | (with_reducible refine LeO.ite ?_ ?_)
   | (with_reducible refine LeO.bind ?_ (fun _ => ?_))
   | exact ih0 _ _
   | exact LeO.none _
   | refine LeO.ite ?_ ?_
   | refine LeO.bind ?_ (fun _ => ?_)
theorem impl_gcd.calls_q0 {p : Prop} (h : p := by repeat (first | (with_reducible first | exact HB.out | apply below_alloc | apply pw_below_drewN | apply below_drew1) | exact HB.out)) : p := h
set_option maxHeartbeats 8000000 in
set_option maxRecDepth 100000 in
theorem impl_gcd.calls (k : Nat) (a0 : Int) (a1 : Int) (r : Int) (w : World) (h : impl_gcd.f k a0 a1 = some r) :
  Calls Try.prog 97 #[.int .i64 a0, .int .i64 a1] w fun e w' => e = .returned (.int .i64 r) ∧ Below w.heap.size w w' := by
 have HB := Aside0.mk (Below.refl w.heap.size w)
 have H : (impl_gcd.l0 k a0 a1) = some r := h
 clear h
 have H' := Aside0.mk H
 clear H
 go_enter Try.func97, Try.ntmps97
 go_wp2
 repeat (go_quiet (fail); try go_wp2)
 go_loopg [0, 1] k (fun kq v0 v1 w' => ∃ (x0_1 : Int) (x1_1 : Int), v0 = .int .i64 x0_1 ∧ v1 = .int .i64 x1_1 ∧ Aside0 (impl_gcd.l0 kq x0_1 x1_1 = some r) ∧ Aside0 (kq ≤ k) ∧ Aside0 (Below w.heap.size w w'))
 case atStart => exact ⟨(a0), (a1), (g3_), (g3_), H', ⟨Nat.le_refl _⟩, ⟨impl_gcd.calls_q0⟩⟩
 case round =>
  clear H'
  try clear p2
  obtain ⟨x0_1, x1_1, rfl, rfl, HA, HK1, HB⟩ := hrel
  cases gk with
  | zero => exact absurd HA.out (by simp [impl_gcd.l0])
  | succ k1 =>
   have H := HA.out
   clear HA
   simp only [impl_gcd.l0] at H
   by_cases c3 : x1_1 = 0
   ·rw [if_pos c3] at H
    have c3b0 : (x1_1 == 0) = true := beq_iff_eq.mpr c3
    have c3b1 : (x1_1 != 0) = false := bne_eq_false_iff_eq.mpr c3
    clear c3
    obtain ⟨ji4, hji4⟩ : ∃ j_ : Int, (mx x0_1 (wrap64 (-x0_1))) = j_ := ⟨_, rfl⟩
    replace H : (some ji4) = some r := by first | (rw [hji4] at H; exact H) | (simp only [hji4] at H ⊢; exact H)
    have hji4_ : (if x0_1 < (wrap64 (-x0_1)) then (wrap64 (-x0_1)) else x0_1) = ji4 := hji4
    obtain rfl := Option.some.inj H
    go_wp2
    repeat (go_quiet (fail); try go_wp2)
    go_ret
    exact ⟨by first | rfl | (simp [errW_none, errW_some] <;> rfl) | (simp only [← hji4]; first | rfl | (simp [errW_none, errW_some] <;> rfl)) | (simp [*, errW_none, errW_some] <;> rfl), impl_gcd.calls_q0⟩
   ·rw [if_neg c3] at H
    have c3b0 : (x1_1 == 0) = false := beq_eq_false_iff_ne.mpr c3
    have c3b1 : (x1_1 != 0) = true := bne_iff_ne.mpr c3
    have H' := Aside0.mk H
    clear H
    go_wp2
    repeat (go_quiet (fail); try go_wp2)
    go_roundg k1
    case measure => have := HK1.out; omega
    case rel => exact ⟨(x1_1), (Int.tmod x0_1 x1_1), (g3_), (g3_), H', ⟨g9_⟩, ⟨impl_gcd.calls_q0⟩⟩
end Go.Proofs.Ytigpmfoagkhaeaa.PU

namespace Go.Proofs.Ytigpmfoagkhaeaa.PU
open Go.RowKit Go.Proofs.YtigpmfoagkhaeaaW.PrintWords Go.Proofs.YtigpmfoagkhaeaaW.PrintLast Go.Proofs.YtigpmfoagkhaeaaW.PrintMore Go.Proofs.Ytigpmfoagkhaeaa.Qd
attribute [local go_sem] max2_int min2_int max_two min_two max_three min_three max_four min_four   -- for this text's walks alone
set_option linter.unusedVariables false
set_option linter.unusedSimpArgs false
def impl_isFrac.f (k : Nat) (a0_0 : Int) (a0_1 : Int) : Option (Bool) := (impl_isNumber.f a0_0).bind fun t215 => (if t215 = true then (if a0_1 ≥ 1 then (if a0_1 ≤ 1000000000 then ((impl_gcd.f k a0_0 a0_1).bind fun t216 => (some (t216 == 1))) else (some false)) else (some false)) else (some false))
theorem impl_isFrac.mono : ∀ a0 a1 k, LeO (impl_isFrac.f k a0 a1) (impl_isFrac.f (k + 1) a0 a1) := by
 intro a0 a1 k
 unfold impl_isFrac.f
 repeat' first
   | (with_reducible exact impl_gcd.mono _ _ _)
   | (with_reducible exact LeO.refl _)
   | (with_reducible exact LeO.none _)
   | (with_reducible refine LeO.ite ?_ ?_)
   | (with_reducible refine LeO.bind ?_ (fun _ => ?_))
   | exact impl_gcd.mono _ _ _
   | exact LeO.none _
   | refine LeO.ite ?_ ?_
   | refine LeO.bind ?_ (fun _ => ?_)
theorem impl_isFrac.calls_q0 {p : Prop} (h : p := by repeat (first | (with_reducible first | exact HB.out | apply below_alloc | apply pw_below_drewN | apply below_drew1 | refine below_set ?_ GE214.out) | exact HB.out)) : p := h
set_option maxHeartbeats 8000000 in
set_option maxRecDepth 100000 in
theorem impl_isFrac.calls (k : Nat) (a0_0 : Int) (a0_1 : Int) (r : Bool) (w : World) (h : impl_isFrac.f k a0_0 a0_1 = some r) :
  Calls Try.prog 77 #[.agg #[.int .i64 a0_0, .int .i64 a0_1]] w fun e w' => e = .returned (.bool r) ∧ Below w.heap.size w w' := by
 have hu36 := Try.underlying36
 have HB := Aside0.mk (Below.refl w.heap.size w)
 have H : ((impl_isNumber.f a0_0).bind fun t215 => (if t215 = true then (if a0_1 ≥ 1 then (if a0_1 ≤ 1000000000 then ((impl_gcd.f k a0_0 a0_1).bind fun t216 => (some (t216 == 1))) else (some false)) else (some false)) else (some false))) = some r := h
 clear h
 obtain ⟨t215, A2, H⟩ := bind_ H
 by_cases c3 : t215 = true
 ·subst c3
  replace H := ifp_ H
  by_cases c4 : a0_1 ≥ 1
  ·rw [if_pos c4] at H
   have c4b0 := decide_eq_true c4
   clear c4
   by_cases c5 : a0_1 ≤ 1000000000
   ·rw [if_pos c5] at H
    have c5b0 := decide_eq_true c5
    clear c5
    obtain ⟨t216, A6, H⟩ := bind_ H
    obtain rfl := Option.some.inj H
    go_enter Try.func77, Try.ntmps77
    go_wp2_with (first | ((with_reducible refine gate_dst (N := 1) rfl ?_); refine bx_ (N := 1) #[.int .i64 a0_0, .int .i64 a0_1] 36 ?_; intro gb214 hg w7 hbox hb; have BK214 := Aside0.mk (hbox); have GW214 := Aside0.mk ((g41_ : w.heap.size ≤ gb214)); have GE214 := Aside0.mk ((g41_ : w.heap.size ≤ gb214)); replace HB := Aside0.mk (below_step (impl_isFrac.calls_q0) hb); clear hb hbox hg; obtain ⟨hcz8_0, hcz8_1, hfz8_0, hfz8_1⟩ := blk2_ BK214) | ((with_reducible refine gate_callee (f := 96) rfl ?_); refine goesL_ (some 5) rfl rfl Try.func96 k_ rfl #[.int .i64 a0_0] rfl (g2_) ?_; (with_reducible refine (impl_isNumber.calls a0_0 true _ A2.out).mono ?_); rintro e w' ⟨rfl, ⟨nd, rfl⟩⟩; refine ⟨_, rfl, ?_⟩) | (go_at_call 97; (with_reducible refine (impl_gcd.calls k a0_0 a0_1 t216 _ A6.out).mono ?_); rintro e w9 ⟨rfl, hb⟩; replace BK214 := Aside0.mk (blk_below (g := gb214) (o := .cells #[.int .i64 a0_0, .int .i64 a0_1] 36 (0, 0)) (uf0_ BK214) hb); replace HB := Aside0.mk (below_step (impl_isFrac.calls_q0) hb); (try clear hb); (try clear hk hi)))
    go_ret
    exact ⟨g4_, impl_isFrac.calls_q0⟩
   ·rw [if_neg c5] at H
    have c5b0 := decide_eq_false c5
    clear c5
    obtain rfl := Option.some.inj H
    go_enter Try.func77, Try.ntmps77
    go_wp2_with (first | ((with_reducible refine gate_dst (N := 1) rfl ?_); refine bx_ (N := 1) #[.int .i64 a0_0, .int .i64 a0_1] 36 ?_; intro gb214 hg w10 hbox hb; have BK214 := Aside0.mk (hbox); have GW214 := Aside0.mk ((g41_ : w.heap.size ≤ gb214)); have GE214 := Aside0.mk ((g41_ : w.heap.size ≤ gb214)); replace HB := Aside0.mk (below_step (impl_isFrac.calls_q0) hb); clear hb hbox hg; obtain ⟨hcz11_0, hcz11_1, hfz11_0, hfz11_1⟩ := blk2_ BK214) | ((with_reducible refine gate_callee (f := 96) rfl ?_); refine goesL_ (some 5) rfl rfl Try.func96 k_ rfl #[.int .i64 a0_0] rfl (g2_) ?_; (with_reducible refine (impl_isNumber.calls a0_0 true _ A2.out).mono ?_); rintro e w' ⟨rfl, ⟨nd, rfl⟩⟩; refine ⟨_, rfl, ?_⟩))
    go_ret
    exact ⟨g4_, impl_isFrac.calls_q0⟩
  ·rw [if_neg c4] at H
   have c4b0 := decide_eq_false c4
   clear c4
   obtain rfl := Option.some.inj H
   go_enter Try.func77, Try.ntmps77
   go_wp2_with (first | ((with_reducible refine gate_dst (N := 1) rfl ?_); refine bx_ (N := 1) #[.int .i64 a0_0, .int .i64 a0_1] 36 ?_; intro gb214 hg w12 hbox hb; have BK214 := Aside0.mk (hbox); have GW214 := Aside0.mk ((g41_ : w.heap.size ≤ gb214)); have GE214 := Aside0.mk ((g41_ : w.heap.size ≤ gb214)); replace HB := Aside0.mk (below_step (impl_isFrac.calls_q0) hb); clear hb hbox hg; obtain ⟨hcz13_0, hcz13_1, hfz13_0, hfz13_1⟩ := blk2_ BK214) | ((with_reducible refine gate_callee (f := 96) rfl ?_); refine goesL_ (some 5) rfl rfl Try.func96 k_ rfl #[.int .i64 a0_0] rfl (g2_) ?_; (with_reducible refine (impl_isNumber.calls a0_0 true _ A2.out).mono ?_); rintro e w' ⟨rfl, ⟨nd, rfl⟩⟩; refine ⟨_, rfl, ?_⟩))
   go_ret
   exact ⟨g4_, impl_isFrac.calls_q0⟩
 ·replace c3 := Bool.eq_false_iff.mpr c3
  subst c3
  replace H := ifn_ H
  obtain rfl := Option.some.inj H
  go_enter Try.func77, Try.ntmps77
  go_wp2_with (first | ((with_reducible refine gate_dst (N := 1) rfl ?_); refine bx_ (N := 1) #[.int .i64 a0_0, .int .i64 a0_1] 36 ?_; intro gb214 hg w14 hbox hb; have BK214 := Aside0.mk (hbox); have GW214 := Aside0.mk ((g41_ : w.heap.size ≤ gb214)); have GE214 := Aside0.mk ((g41_ : w.heap.size ≤ gb214)); replace HB := Aside0.mk (below_step (impl_isFrac.calls_q0) hb); clear hb hbox hg; obtain ⟨hcz15_0, hcz15_1, hfz15_0, hfz15_1⟩ := blk2_ BK214) | ((with_reducible refine gate_callee (f := 96) rfl ?_); refine goesL_ (some 5) rfl rfl Try.func96 k_ rfl #[.int .i64 a0_0] rfl (g2_) ?_; (with_reducible refine (impl_isNumber.calls a0_0 false _ A2.out).mono ?_); rintro e w' ⟨rfl, ⟨nd, rfl⟩⟩; refine ⟨_, rfl, ?_⟩))
  go_ret
  exact ⟨g4_, impl_isFrac.calls_q0⟩
end Go.Proofs.Ytigpmfoagkhaeaa.PU

namespace Go.Proofs.Ytigpmfoagkhaeaa.PU
open Go.RowKit Go.Proofs.YtigpmfoagkhaeaaW.PrintWords Go.Proofs.YtigpmfoagkhaeaaW.PrintLast Go.Proofs.YtigpmfoagkhaeaaW.PrintMore Go.Proofs.Ytigpmfoagkhaeaa.Qd
attribute [local go_sem] max2_int min2_int max_two min_two max_three min_three max_four min_four   -- for this text's walks alone
set_option linter.unusedVariables false
set_option linter.unusedSimpArgs false
def impl_FracOk.f (k : Nat) (a0_0 : Int) (a0_1 : Int) : Option (Bool) := (impl_isFrac.f k a0_0 a0_1).bind fun t218 => (some t218)
theorem impl_FracOk.mono : ∀ a0 a1 k, LeO (impl_FracOk.f k a0 a1) (impl_FracOk.f (k + 1) a0 a1) := by
 intro a0 a1 k
 unfold impl_FracOk.f
 repeat' first
   | (with_reducible exact impl_isFrac.mono _ _ _)
   | (with_reducible exact LeO.refl _)
   | (with_reducible exact LeO.none _)
   | (with_reducible refine LeO.ite ?_ ?_)
   | (with_reducible refine LeO.bind ?_ (fun _ => ?_))
   | exact impl_isFrac.mono _ _ _
   | exact LeO.none _
   | refine LeO.ite ?_ ?_
   | refine LeO.bind ?_ (fun _ => ?_)
theorem impl_FracOk.calls_q0 {p : Prop} (h : p := by repeat (first | (with_reducible first | exact HB.out | apply below_alloc | apply pw_below_drewN | apply below_drew1 | refine below_set ?_ GE217.out) | exact HB.out)) : p := h
set_option maxHeartbeats 8000000 in
set_option maxRecDepth 100000 in
theorem impl_FracOk.calls (k : Nat) (a0_0 : Int) (a0_1 : Int) (r : Bool) (w : World) (h : impl_FracOk.f k a0_0 a0_1 = some r) :
  Calls Try.prog 57 #[.agg #[.int .i64 a0_0, .int .i64 a0_1]] w fun e w' => e = .returned (.bool r) ∧ Below w.heap.size w w' := by
 have hu36 := Try.underlying36
 have HB := Aside0.mk (Below.refl w.heap.size w)
 have H : ((impl_isFrac.f k a0_0 a0_1).bind fun t218 => (some t218)) = some r := h
 clear h
 obtain ⟨t218, A2, H⟩ := bind_ H
 obtain rfl := Option.some.inj H
 go_enter Try.func57, Try.ntmps57
 go_wp2_with (first | ((with_reducible refine gate_dst (N := 1) rfl ?_); refine bx_ (N := 1) #[.int .i64 a0_0, .int .i64 a0_1] 36 ?_; intro gb217 hg w3 hbox hb; have BK217 := Aside0.mk (hbox); have GW217 := Aside0.mk ((by rw [hg]; exact (below_size (impl_FracOk.calls_q0)) : w.heap.size ≤ gb217)); have GE217 := Aside0.mk ((by rw [hg]; exact (below_size (impl_FracOk.calls_q0)) : w.heap.size ≤ gb217)); replace HB := Aside0.mk (below_step (impl_FracOk.calls_q0) hb); clear hb hbox hg; obtain ⟨hcz4_0, hcz4_1, hfz4_0, hfz4_1⟩ := blk2_ BK217) | ((with_reducible refine gate_callee (f := 77) rfl ?_); refine goesL_ (some 4) rfl rfl Try.func77 k_ rfl #[.agg #[.int .i64 a0_0, .int .i64 a0_1]] rfl (g2_) ?_; (with_reducible refine (impl_isFrac.calls k a0_0 a0_1 t218 _ A2.out).mono ?_); rintro e w5 ⟨rfl, hb⟩; refine ⟨_, rfl, ?_⟩; replace BK217 := Aside0.mk (blk_below (g := gb217) (o := .cells #[.int .i64 a0_0, .int .i64 a0_1] 36 (0, 0)) (uf0_ BK217) hb); replace HB := Aside0.mk (below_step (impl_FracOk.calls_q0) hb); (try clear hb); (try clear hk hi)))
 go_ret
 exact ⟨g4_, impl_FracOk.calls_q0⟩
end Go.Proofs.Ytigpmfoagkhaeaa.PU

namespace Go.Proofs.Ytigpmfoagkhaeaa.PU
open Go.RowKit Go.Proofs.YtigpmfoagkhaeaaW.PrintWords Go.Proofs.YtigpmfoagkhaeaaW.PrintLast Go.Proofs.YtigpmfoagkhaeaaW.PrintMore Go.Proofs.Ytigpmfoagkhaeaa.Qd
attribute [local go_sem] max2_int min2_int max_two min_two max_three min_three max_four min_four   -- for this text's walks alone
set_option linter.unusedVariables false
set_option linter.unusedSimpArgs false
def laws_alive.f (k : Nat)  : Option (Bool) := (impl_FracOk.f k 1 2).bind fun t219 => (if t219 = true then ((impl_FracOk.f k 2 4).bind fun t220 => (some (!t220))) else (some false))
theorem laws_alive.mono : ∀ k, LeO (laws_alive.f k ) (laws_alive.f (k + 1) ) := by
 intro  k
 unfold laws_alive.f
 repeat' first
   | (with_reducible exact impl_FracOk.mono _ _ _)
   | (with_reducible exact LeO.refl _)
   | (with_reducible exact LeO.none _)
   | (with_reducible refine LeO.ite ?_ ?_)
   | (with_reducible refine LeO.bind ?_ (fun _ => ?_))
   | exact impl_FracOk.mono _ _ _
   | exact LeO.none _
   | refine LeO.ite ?_ ?_
   | refine LeO.bind ?_ (fun _ => ?_)
theorem laws_alive.calls_q0 {p : Prop} (h : p := by repeat (first | (with_reducible first | exact HB.out | apply below_alloc | apply pw_below_drewN | apply below_drew1) | exact HB.out)) : p := h
set_option maxHeartbeats 8000000 in
set_option maxRecDepth 100000 in
theorem laws_alive.calls (k : Nat)  (r : Bool) (w : World) (h : laws_alive.f k  = some r) :
  Calls Try.prog 17 #[] w fun e w' => e = .returned (.bool r) ∧ Below w.heap.size w w' := by
 have hu36 := Try.underlying36
 have HB := Aside0.mk (Below.refl w.heap.size w)
 have H : ((impl_FracOk.f k 1 2).bind fun t219 => (if t219 = true then ((impl_FracOk.f k 2 4).bind fun t220 => (some (!t220))) else (some false))) = some r := h
 clear h
 obtain ⟨t219, A1, H⟩ := bind_ H
 by_cases c2 : t219 = true
 ·subst c2
  replace H := ifp_ H
  obtain ⟨t220, A3, H⟩ := bind_ H
  obtain rfl := Option.some.inj H
  go_enter Try.func17, Try.ntmps17
  go_wp2_with (first | ((with_reducible refine gate_callee (f := 57) rfl ?_); refine goesL_ (some 2) rfl rfl Try.func57 k_ rfl #[.agg #[.int .i64 1, .int .i64 2]] rfl (g2_) ?_; (with_reducible refine (impl_FracOk.calls k 1 2 true _ A1.out).mono ?_); rintro e w4 ⟨rfl, hb⟩; refine ⟨_, rfl, ?_⟩; replace HB := Aside0.mk (below_step (laws_alive.calls_q0) hb); (try clear hb); (try clear hk hi)) | (go_at_call 57; (with_reducible refine (impl_FracOk.calls k 2 4 t220 _ A3.out).mono ?_); rintro e w5 ⟨rfl, hb⟩; replace HB := Aside0.mk (below_step (laws_alive.calls_q0) hb); (try clear hb); (try clear hk hi)))
  go_ret
  exact ⟨g4_, laws_alive.calls_q0⟩
 ·replace c2 := Bool.eq_false_iff.mpr c2
  subst c2
  replace H := ifn_ H
  obtain rfl := Option.some.inj H
  go_enter Try.func17, Try.ntmps17
  go_wp2_with (first | ((with_reducible refine gate_callee (f := 57) rfl ?_); refine goesL_ (some 2) rfl rfl Try.func57 k_ rfl #[.agg #[.int .i64 1, .int .i64 2]] rfl (g2_) ?_; (with_reducible refine (impl_FracOk.calls k 1 2 false _ A1.out).mono ?_); rintro e w6 ⟨rfl, hb⟩; refine ⟨_, rfl, ?_⟩; replace HB := Aside0.mk (below_step (laws_alive.calls_q0) hb); (try clear hb); (try clear hk hi)))
  go_ret
  exact ⟨g4_, laws_alive.calls_q0⟩
end Go.Proofs.Ytigpmfoagkhaeaa.PU

namespace Go.Proofs.Ytigpmfoagkhaeaa.PU
open Go.RowKit Go.Proofs.YtigpmfoagkhaeaaW.PrintWords Go.Proofs.YtigpmfoagkhaeaaW.PrintLast Go.Proofs.YtigpmfoagkhaeaaW.PrintMore Go.Proofs.Ytigpmfoagkhaeaa.Qd
attribute [local go_sem] max2_int min2_int max_two min_two max_three min_three max_four min_four   -- for this text's walks alone
set_option linter.unusedVariables false
set_option linter.unusedSimpArgs false
def cmp_isNaN_int.f (a0 : Int) : Option (Bool) := some (a0 != a0)
set_option maxHeartbeats 8000000 in
set_option maxRecDepth 100000 in
theorem cmp_isNaN_int.calls (a0 : Int) (r : Bool) (w : World) (h : cmp_isNaN_int.f a0 = some r) :
  Calls Try.prog 101 #[.int .i64 a0] w fun e w' => e = .returned (.bool r) ∧ Drawn0 w w' := by
 have H : (some (a0 != a0)) = some r := h
 clear h
 obtain rfl := Option.some.inj H
 go_enter Try.func101, Try.ntmps101
 go_wp2
 go_ret
 exact ⟨g3_, g5_⟩
end Go.Proofs.Ytigpmfoagkhaeaa.PU

namespace Go.Proofs.Ytigpmfoagkhaeaa.PU
open Go.RowKit Go.Proofs.YtigpmfoagkhaeaaW.PrintWords Go.Proofs.YtigpmfoagkhaeaaW.PrintLast Go.Proofs.YtigpmfoagkhaeaaW.PrintMore Go.Proofs.Ytigpmfoagkhaeaa.Qd
attribute [local go_sem] max2_int min2_int max_two min_two max_three min_three max_four min_four   -- for this text's walks alone
set_option linter.unusedVariables false
set_option linter.unusedSimpArgs false
def cmp_Compare_int.f (a0 : Int) (a1 : Int) : Option (Int) := (cmp_isNaN_int.f a0).bind fun t221 => ((cmp_isNaN_int.f a1).bind fun t222 => (if t221 = true then (if t222 = true then (some 0) else (some (-1))) else (if t222 = true then (some 1) else (if a0 < a1 then (some (-1)) else (if a0 > a1 then (some 1) else (some 0))))))
set_option maxHeartbeats 8000000 in
set_option maxRecDepth 100000 in
theorem cmp_Compare_int.calls (a0 : Int) (a1 : Int) (r : Int) (w : World) (h : cmp_Compare_int.f a0 a1 = some r) :
  Calls Try.prog 98 #[.int .i64 a0, .int .i64 a1] w fun e w' => e = .returned (.int .i64 r) ∧ Drawn0 w w' := by
 have H : ((cmp_isNaN_int.f a0).bind fun t221 => ((cmp_isNaN_int.f a1).bind fun t222 => (if t221 = true then (if t222 = true then (some 0) else (some (-1))) else (if t222 = true then (some 1) else (if a0 < a1 then (some (-1)) else (if a0 > a1 then (some 1) else (some 0))))))) = some r := h
 clear h
 obtain ⟨t221, A3, H⟩ := bind_ H
 obtain ⟨t222, A4, H⟩ := bind_ H
 by_cases c5 : t221 = true
 ·subst c5
  replace H := ifp_ H
  by_cases c6 : t222 = true
  ·subst c6
   replace H := ifp_ H
   obtain rfl := Option.some.inj H
   go_enter Try.func98, Try.ntmps98
   go_wp2_with (first | ((with_reducible refine gate_callee (f := 101) rfl ?_); refine goesL_ (some 8) rfl rfl Try.func101 k_ rfl #[.int .i64 a0] rfl (g2_) ?_; (with_reducible refine (cmp_isNaN_int.calls a0 true _ A3.out).mono ?_); rintro e w' ⟨rfl, ⟨nd, rfl⟩⟩; refine ⟨_, rfl, ?_⟩) | ((with_reducible refine gate_callee (f := 101) rfl ?_); refine goesL_ (some 10) rfl rfl Try.func101 k_ rfl #[.int .i64 a1] rfl (g2_) ?_; (with_reducible refine (cmp_isNaN_int.calls a1 true _ A4.out).mono ?_); rintro e w' ⟨rfl, ⟨nd, rfl⟩⟩; refine ⟨_, rfl, ?_⟩))
   go_ret
   exact ⟨g3_, g5_⟩
  ·replace c6 := Bool.eq_false_iff.mpr c6
   subst c6
   replace H := ifn_ H
   obtain rfl := Option.some.inj H
   go_enter Try.func98, Try.ntmps98
   go_wp2_with (first | ((with_reducible refine gate_callee (f := 101) rfl ?_); refine goesL_ (some 8) rfl rfl Try.func101 k_ rfl #[.int .i64 a0] rfl (g2_) ?_; (with_reducible refine (cmp_isNaN_int.calls a0 true _ A3.out).mono ?_); rintro e w' ⟨rfl, ⟨nd, rfl⟩⟩; refine ⟨_, rfl, ?_⟩) | ((with_reducible refine gate_callee (f := 101) rfl ?_); refine goesL_ (some 10) rfl rfl Try.func101 k_ rfl #[.int .i64 a1] rfl (g2_) ?_; (with_reducible refine (cmp_isNaN_int.calls a1 false _ A4.out).mono ?_); rintro e w' ⟨rfl, ⟨nd, rfl⟩⟩; refine ⟨_, rfl, ?_⟩))
   go_ret
   exact ⟨g3_, g5_⟩
 ·replace c5 := Bool.eq_false_iff.mpr c5
  subst c5
  replace H := ifn_ H
  by_cases c7 : t222 = true
  ·subst c7
   replace H := ifp_ H
   obtain rfl := Option.some.inj H
   go_enter Try.func98, Try.ntmps98
   go_wp2_with (first | ((with_reducible refine gate_callee (f := 101) rfl ?_); refine goesL_ (some 8) rfl rfl Try.func101 k_ rfl #[.int .i64 a0] rfl (g2_) ?_; (with_reducible refine (cmp_isNaN_int.calls a0 false _ A3.out).mono ?_); rintro e w' ⟨rfl, ⟨nd, rfl⟩⟩; refine ⟨_, rfl, ?_⟩) | ((with_reducible refine gate_callee (f := 101) rfl ?_); refine goesL_ (some 10) rfl rfl Try.func101 k_ rfl #[.int .i64 a1] rfl (g2_) ?_; (with_reducible refine (cmp_isNaN_int.calls a1 true _ A4.out).mono ?_); rintro e w' ⟨rfl, ⟨nd, rfl⟩⟩; refine ⟨_, rfl, ?_⟩))
   go_ret
   exact ⟨g3_, g5_⟩
  ·replace c7 := Bool.eq_false_iff.mpr c7
   subst c7
   replace H := ifn_ H
   by_cases c8 : a0 < a1
   ·rw [if_pos c8] at H
    have c8b0 := decide_eq_true c8
    clear c8
    obtain rfl := Option.some.inj H
    go_enter Try.func98, Try.ntmps98
    go_wp2_with (first | ((with_reducible refine gate_callee (f := 101) rfl ?_); refine goesL_ (some 8) rfl rfl Try.func101 k_ rfl #[.int .i64 a0] rfl (g2_) ?_; (with_reducible refine (cmp_isNaN_int.calls a0 false _ A3.out).mono ?_); rintro e w' ⟨rfl, ⟨nd, rfl⟩⟩; refine ⟨_, rfl, ?_⟩) | ((with_reducible refine gate_callee (f := 101) rfl ?_); refine goesL_ (some 10) rfl rfl Try.func101 k_ rfl #[.int .i64 a1] rfl (g2_) ?_; (with_reducible refine (cmp_isNaN_int.calls a1 false _ A4.out).mono ?_); rintro e w' ⟨rfl, ⟨nd, rfl⟩⟩; refine ⟨_, rfl, ?_⟩))
    go_ret
    exact ⟨g3_, g5_⟩
   ·rw [if_neg c8] at H
    have c8b0 := decide_eq_false c8
    clear c8
    by_cases c9 : a0 > a1
    ·rw [if_pos c9] at H
     have c9b0 := decide_eq_true c9
     clear c9
     obtain rfl := Option.some.inj H
     go_enter Try.func98, Try.ntmps98
     go_wp2_with (first | ((with_reducible refine gate_callee (f := 101) rfl ?_); refine goesL_ (some 8) rfl rfl Try.func101 k_ rfl #[.int .i64 a0] rfl (g2_) ?_; (with_reducible refine (cmp_isNaN_int.calls a0 false _ A3.out).mono ?_); rintro e w' ⟨rfl, ⟨nd, rfl⟩⟩; refine ⟨_, rfl, ?_⟩) | ((with_reducible refine gate_callee (f := 101) rfl ?_); refine goesL_ (some 10) rfl rfl Try.func101 k_ rfl #[.int .i64 a1] rfl (g2_) ?_; (with_reducible refine (cmp_isNaN_int.calls a1 false _ A4.out).mono ?_); rintro e w' ⟨rfl, ⟨nd, rfl⟩⟩; refine ⟨_, rfl, ?_⟩))
     go_ret
     exact ⟨g3_, g5_⟩
    ·rw [if_neg c9] at H
     have c9b0 := decide_eq_false c9
     clear c9
     obtain rfl := Option.some.inj H
     go_enter Try.func98, Try.ntmps98
     go_wp2_with (first | ((with_reducible refine gate_callee (f := 101) rfl ?_); refine goesL_ (some 8) rfl rfl Try.func101 k_ rfl #[.int .i64 a0] rfl (g2_) ?_; (with_reducible refine (cmp_isNaN_int.calls a0 false _ A3.out).mono ?_); rintro e w' ⟨rfl, ⟨nd, rfl⟩⟩; refine ⟨_, rfl, ?_⟩) | ((with_reducible refine gate_callee (f := 101) rfl ?_); refine goesL_ (some 10) rfl rfl Try.func101 k_ rfl #[.int .i64 a1] rfl (g2_) ?_; (with_reducible refine (cmp_isNaN_int.calls a1 false _ A4.out).mono ?_); rintro e w' ⟨rfl, ⟨nd, rfl⟩⟩; refine ⟨_, rfl, ?_⟩))
     go_ret
     exact ⟨g3_, g5_⟩
end Go.Proofs.Ytigpmfoagkhaeaa.PU

namespace Go.Proofs.Ytigpmfoagkhaeaa.PU
open Go.RowKit Go.Proofs.YtigpmfoagkhaeaaW.PrintWords Go.Proofs.YtigpmfoagkhaeaaW.PrintLast Go.Proofs.YtigpmfoagkhaeaaW.PrintMore Go.Proofs.Ytigpmfoagkhaeaa.Qd
attribute [local go_sem] max2_int min2_int max_two min_two max_three min_three max_four min_four   -- for this text's walks alone
set_option linter.unusedVariables false
set_option linter.unusedSimpArgs false
def impl_compare.f (a0_0 : Int) (a0_1 : Int) (a1_0 : Int) (a1_1 : Int) : Option (Int) := (cmp_Compare_int.f (wrap64 (a0_0 * a1_1)) (wrap64 (a1_0 * a0_1))).bind fun t225 => (some t225)
theorem impl_compare.calls_q0 {p : Prop} (h : p := by repeat (first | (with_reducible first | exact HB.out | apply below_alloc | apply pw_below_drewN | apply below_drew1 | refine below_set ?_ GE223.out | refine below_set ?_ GE224.out) | exact HB.out)) : p := h
set_option maxHeartbeats 8000000 in
set_option maxRecDepth 100000 in
theorem impl_compare.calls (a0_0 : Int) (a0_1 : Int) (a1_0 : Int) (a1_1 : Int) (r : Int) (w : World) (h : impl_compare.f a0_0 a0_1 a1_0 a1_1 = some r) :
  Calls Try.prog 78 #[.agg #[.int .i64 a0_0, .int .i64 a0_1], .agg #[.int .i64 a1_0, .int .i64 a1_1]] w fun e w' => e = .returned (.int .i64 r) ∧ Below w.heap.size w w' := by
 have hu36 := Try.underlying36
 have HB := Aside0.mk (Below.refl w.heap.size w)
 have H : ((cmp_Compare_int.f (wrap64 (a0_0 * a1_1)) (wrap64 (a1_0 * a0_1))).bind fun t225 => (some t225)) = some r := h
 clear h
 obtain ⟨t225, A3, H⟩ := bind_ H
 obtain rfl := Option.some.inj H
 go_enter Try.func78, Try.ntmps78
 go_wp2_with (first | ((with_reducible refine gate_dst (N := 2) rfl ?_); refine bx_ (N := 2) #[.int .i64 a0_0, .int .i64 a0_1] 36 ?_; intro gb223 hg w4 hbox hb; have BK223 := Aside0.mk (hbox); have GW223 := Aside0.mk ((g87_ : w.heap.size ≤ gb223)); have GE223 := Aside0.mk ((g87_ : w.heap.size ≤ gb223)); replace HB := Aside0.mk (below_step (impl_compare.calls_q0) hb); clear hb hbox hg) | ((with_reducible refine gate_dst (N := 3) rfl ?_); refine bx_ (N := 3) #[.int .i64 a1_0, .int .i64 a1_1] 36 ?_; intro gb224 hg w5 hbox hb; have BK224 := Aside0.mk (hbox); have GW224 := Aside0.mk ((g87_ : w.heap.size ≤ gb224)); have GE224 := Aside0.mk ((g87_ : w.heap.size ≤ gb224)); replace HB := Aside0.mk (below_step (impl_compare.calls_q0) hb); have NB223_224 := Aside0.mk ((by rw [hg]; exact Nat.ne_of_lt (blk_lt (g := gb223) (o := .cells #[.int .i64 a0_0, .int .i64 a0_1] 36 (0, 0)) (uf0_ BK223)) : gb223 ≠ gb224)); have NB224_223 := Aside0.mk ((by rw [hg]; exact Nat.ne_of_gt (blk_lt (g := gb223) (o := .cells #[.int .i64 a0_0, .int .i64 a0_1] 36 (0, 0)) (uf0_ BK223)) : gb224 ≠ gb223)); replace BK223 := Aside0.mk (blk_below (g := gb223) (o := .cells #[.int .i64 a0_0, .int .i64 a0_1] 36 (0, 0)) (uf0_ BK223) hb); clear hb hbox hg; have hnb6 := NB223_224.out; have hnc6 := NB224_223.out; obtain ⟨hcz7_0, hcz7_1, hfz7_0, hfz7_1⟩ := blk2_ BK223; obtain ⟨hcz8_0, hcz8_1, hfz8_0, hfz8_1⟩ := blk2_ BK224) | ((with_reducible refine gate_callee (f := 98) rfl ?_); refine goesL_ (some 15) rfl rfl Try.func98 k_ rfl #[.int .i64 (wrap64 (a0_0 * a1_1)), .int .i64 (wrap64 (a1_0 * a0_1))] rfl (g2_) ?_; (with_reducible refine (cmp_Compare_int.calls (wrap64 (a0_0 * a1_1)) (wrap64 (a1_0 * a0_1)) t225 _ A3.out).mono ?_); rintro e w' ⟨rfl, ⟨nd, rfl⟩⟩; refine ⟨_, rfl, ?_⟩))
 go_ret
 exact ⟨g4_, impl_compare.calls_q0⟩
end Go.Proofs.Ytigpmfoagkhaeaa.PU
